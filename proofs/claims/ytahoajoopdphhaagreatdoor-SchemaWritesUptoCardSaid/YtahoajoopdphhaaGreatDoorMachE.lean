/- The abstract machine computed by simp: the transformer's equations,one an operation,the continuation behind a word that simp does not enter. -/
import Derived.Test.YtahoajoopdphhaaGreatDoorMachA
import Derived.Attr
set_option linter.unusedSimpArgs false
set_option linter.unusedVariables false
namespace Ago
section
variable {R:Nat→List AV→Heap→AV→Heap→Prop} {PR:Nat→List AV→AV→Prop}

class KF (α:Type) where
 k:α→Prop
class KP where
 p:Prop
class KC where
 k:AV→Heap→Prop
class KN where
 k:Nat→List AV→Prop
class KL where
 R:Nat→List AV→Heap→AV→Heap→Prop
 PR:Nat→List AV→AV→Prop
 b:ACode
 Q:Ex→St→Prop

def q5H {α:Type} (x:Option α) [c:KF α]:Prop:=q3x x c.k
def q2C (x:AV) [a:KP] [b:KP]:Prop:=q7v x a.p b.p
def q1e (x:Option Bool) [a:KP] [b:KP]:Prop:=q38 x a.p b.p
def qpD (x:Option (AV × Blk)) (y:Option Blk) [c:KF (AV × Blk)]:Prop:=qox x y c.k
def qpr (l:List AV) [c:KN]:Prop:=qoT l c.k
def q19 (s:St) [c:KF St]:Prop:=c.k s
def qdc (R:Nat→List AV→Heap→AV→Heap→Prop) (f:Nat) (args:List AV) (H:Heap) [c:KC]:Prop:=qkh R f args H c.k
def qfO (PR:Nat→List AV→AV→Prop) (f:Nat) (ts:List AV) [c:KF AV]:Prop:=qoE PR f ts c.k
def qg5 (live:List Nat) (s:St) [c:KL]:Prop:=aw c.R c.PR (.loop live c.b) c.Q s

@[go_sem] theorem qoF {α:Type} (v:α) (c:KF α) : @q5H α (some v) c=c.k v:=(rfl)
@[go_sem] theorem qoY {α:Type} (c:KF α) : @q5H α none c=False:=(rfl)
@[go_sem] theorem qp0 (a b:KP) : @q2C (.bool true) a b=a.p:=(rfl)
@[go_sem] theorem qnC (a b:KP) : @q2C (.bool false) a b=b.p:=(rfl)
@[go_sem] theorem qos (a b:KP) : @q1e (some true) a b=a.p:=(rfl)
@[go_sem] theorem qnh (a b:KP) : @q1e (some false) a b=b.p:=(rfl)
@[go_sem] theorem qrw (v:AV × Blk) (c:KF (AV × Blk)) : @qpD (some v) (some .resv) c=c.k v:=(rfl)
@[go_sem] theorem quW (f:Nat) (cap args:List AV) (c:KN) : @qpr (.fn f cap::args) c=c.k f (args++cap):=(rfl)
@[go_sem] theorem qrC (tm:List AV) (h:Heap) (b rb:Nat) (c:KF St) : @q19 ⟨tm,h,b,rb⟩ c=c.k ⟨tm,h,b,rb⟩:=(rfl)

@[go_sem] theorem qvf (tm:List AV) (h H:Heap) (b rb d:Nat) (v:AV):St.put ⟨tm,h,b,rb⟩ (some d) v H=⟨tm.set d v,H,b,rb⟩:=(rfl)
@[go_sem] theorem quD (tm:List AV) (h H:Heap) (b rb:Nat) (v:AV):St.put ⟨tm,h,b,rb⟩ none v H=⟨tm,H,b,rb⟩:=(rfl)
@[go_sem] theorem qwL (tm:List AV) (h:Heap) (b rb i:Nat):St.eval ⟨tm,h,b,rb⟩ (.t i)=tm.getD i undef:=(rfl)
@[go_sem] theorem qwK (s:St) (v:AV):s.eval (.c v)=v:=(rfl)

@[go_sem ↓] theorem qtu (K:St→Prop) (s:St):q1l R PR [] K s=K s:=(rfl)
@[go_sem ↓] theorem qrv (dst:Option Nat) (p:POp) (args:List Opd) (l:List AOper) (K:St→Prop) (s:St) :
  q1l R PR (⟨dst,.pure p,args,none⟩::l) K s = @q5H _ (p.exec (args.map s.eval)) ⟨fun v=>@q19 (s.put dst v s.heap) ⟨q1l R PR l K⟩⟩:=(rfl)
@[go_sem ↓] theorem qrB (dst:Option Nat) (p:ROp) (args:List Opd) (l:List AOper) (K:St→Prop) (s:St) :
  q1l R PR (⟨dst,.read p,args,none⟩::l) K s = @q5H _ (p.exec (args.map s.eval) s.heap) ⟨fun v=>@q19 (s.put dst v s.heap) ⟨q1l R PR l K⟩⟩:=(rfl)
@[go_sem ↓] theorem qtn (dst:Option Nat) (p:NOp) (args:List Opd) (l:List AOper) (K:St→Prop) (s:St) :
  q1l R PR (⟨dst,.new p,args,none⟩::l) K s = @q5H _ (p.exec (args.map s.eval) s.heap.length) ⟨fun v=>@q19 (s.put dst v.1 (s.heap++[v.2])) ⟨q1l R PR l K⟩⟩:=(rfl)
@[go_sem ↓] theorem qrg (dst:Option Nat) (j:Nat) (p:NOp) (args:List Opd) (l:List AOper) (K:St→Prop) (s:St) :
  q1l R PR (⟨dst,.newAt j p,args,none⟩::l) K s = @qpD (p.exec (args.map s.eval) (s.rb+j)) s.heap[s.rb+j]? ⟨fun v=>@q19 (s.put dst v.1 (s.heap.set (s.rb+j) v.2)) ⟨q1l R PR l K⟩⟩:=(rfl)
@[go_sem ↓] theorem qtS (dst:Option Nat) (p:EOp) (args:List Opd) (l:List AOper) (K:St→Prop) (s:St) :
  q1l R PR (⟨dst,.eff p,args,none⟩::l) K s = @q5H _ (p.exec (args.map s.eval) s.heap) ⟨fun v=>@q19 (s.put dst v.1 v.2) ⟨q1l R PR l K⟩⟩:=(rfl)
@[go_sem ↓] theorem qry (dst:Option Nat) (f:Nat) (args:List Opd) (l:List AOper) (K:St→Prop) (s:St) :
  q1l R PR (⟨dst,.call f,args,none⟩::l) K s = @qdc R f (args.map s.eval) s.heap ⟨fun v H'=>@q19 (s.put dst v H') ⟨q1l R PR l K⟩⟩:=(rfl)
@[go_sem ↓] theorem qr1 (dst:Option Nat) (f:Nat) (args:List Opd) (l:List AOper) (K:St→Prop) (s:St) :
  q1l R PR (⟨dst,.pcall f,args,none⟩::l) K s =
   @q5H _ (q1L (frz s.heap 6) (args.map s.eval)) ⟨fun ts=>@qfO PR f ts ⟨fun v=>@q19 (s.put dst v (q0L s.heap (args.map s.eval) v)) ⟨q1l R PR l K⟩⟩⟩:=(rfl)
@[go_sem ↓] theorem qpd (dst:Option Nat) (args:List Opd) (l:List AOper) (K:St→Prop) (s:St) :
  q1l R PR (⟨dst,.callv,args,none⟩::l) K s = @qpr (args.map s.eval) ⟨fun f as=>@qdc R f as s.heap ⟨fun v H'=>@q19 (s.put dst v H') ⟨q1l R PR l K⟩⟩⟩:=(rfl)
@[go_sem ↓] theorem qqm (dst:Option Nat) (op:AOp) (args:List Opd) (t:Nat) (b:Bool) (l:List AOper) (K:St→Prop) (s:St) :
  q1l R PR (⟨dst,op,args,some (t,b)⟩::l) K s = @q1e (s.wanted (some (t,b))) ⟨q1l R PR (⟨dst,op,args,none⟩::l) K s⟩ ⟨@q19 (s.put dst undef s.heap) ⟨q1l R PR l K⟩⟩:=(rfl)

@[go_sem ↓] theorem qwa (Q:Ex→St→Prop) (s:St):aw R PR .skip Q s=Q .normal s:=(rfl)
@[go_sem ↓] theorem qwT (l:List AOper) (Q:Ex→St→Prop) (s:St):aw R PR (.ops l) Q s=q1l R PR l (Q .normal) s:=(rfl)
@[go_sem ↓] theorem qwP (a b:ACode) (Q:Ex→St→Prop) (s:St):aw R PR (.seq a b) Q s=aw R PR a (q8R (aw R PR b Q) Q) s:=(rfl)
@[go_sem ↓] theorem qw3 (x:Opd) (a b:ACode) (Q:Ex→St→Prop) (s:St):aw R PR (.cond x a b) Q s = @q2C (s.eval x) ⟨aw R PR a Q s⟩ ⟨aw R PR b Q s⟩:=(rfl)
@[go_sem ↓] theorem qvy (id:Nat) (b:ACode) (Q:Ex→St→Prop) (s:St):aw R PR (.block id b) Q s=aw R PR b (q5G id Q) s:=(rfl)
@[go_sem ↓] theorem quI (live:List Nat) (b:ACode) (Q:Ex→St→Prop) (s:St):aw R PR (.loop live b) Q s = @qg5 live s ⟨R,PR,b,Q⟩:=(rfl)
@[go_sem ↓] theorem quX (b:ACode) (Q:Ex→St→Prop) (s:St):aw R PR (.scope b) Q s=aw R PR b Q s:=(rfl)
@[go_sem ↓] theorem qlO (id:Nat) (Q:Ex→St→Prop) (s:St):q5G id Q .normal s=Q .normal s:=(rfl)
@[go_sem ↓] theorem qq3 (id:Nat) (Q:Ex→St→Prop) (s:St):q5G id Q .ret s=Q .ret s:=(rfl)
@[go_sem ↓] theorem qoO (id:Nat) (Q:Ex→St→Prop) (s:St):q5G id Q (.exit id) s=Q .normal s:=by
 unfold q5G Ex.out
 simp only[if_true]
theorem qcw {id i:Nat} (h : ¬ i=id) (Q:Ex→St→Prop) (s:St):q5G id Q (.exit i) s=Q (.exit i) s:=by
 unfold q5G Ex.out
 simp only[h,if_false]
attribute [go_sem] qcw
@[go_sem ↓] theorem qwn (id:Nat) (Q:Ex→St→Prop) (s:St):aw R PR (.exit id) Q s=Q (.exit id) s:=(rfl)
@[go_sem ↓] theorem qwR (Q:Ex→St→Prop) (s:St):aw R PR .ret Q s=Q .ret s:=(rfl)
@[go_sem ↓] theorem qnI (next:St→Prop) (Q:Ex→St→Prop) (s:St):q8R next Q .normal s=next s:=(rfl)
@[go_sem ↓] theorem qqk (next:St→Prop) (Q:Ex→St→Prop) (i:Nat) (s:St):q8R next Q (.exit i) s=Q (.exit i) s:=(rfl)
@[go_sem ↓] theorem qrr (next:St→Prop) (Q:Ex→St→Prop) (s:St):q8R next Q .ret s=Q .ret s:=(rfl)

attribute [go_sem] POp.exec ROp.exec NOp.exec EOp.exec qo9 qmN q9W quO qve qvq qvk qqr qb0 xUn qob q9e qv9 qgl qd1 qcv qhf qd2 qgH qcj qmL qnj quQ qwI xMM qrz qbG
 qqS qgO qkl q9r qwC qjV q3p q31 part q3T qaF qcD qaW q9l q9a q95 q3g q7J qem undef AV.cells
 qjH Heap.load q75 q8Z qcO oneCell qfT q5r q5F qqe qan qhL q44 findKey q5n qay AV.one AV.solid
 qtW qtx q4o q7n qbL qaI qkZ qhi q2D q6j qnZ qhk q73 qkX qle qe2 qcC q7d q9f q5e
 Heap.store q9i q40 setCells qpq Heap.strike q0D Heap.elems q3t Heap.append Heap.flatOf q1L St.wanted AV.aged AV.young AV.isPure AV.pureN AV.isPlain AV.plainN q0L q0q q1h

attribute [go_sem] Kd Kl Vx Vr List.getD_nil KZ KY List.getElem?_nil List.length_cons List.length_nil List.set_cons_zero List.set_cons_succ Kf Kh
 VE List.replicate_zero List.drop_zero List.drop_succ_cons VC K4 List.take_nil List.drop_nil List.zip_cons_cons List.zip_nil_left List.zip_nil_right Vy List.all_nil Vz List.foldl_nil
 if_true if_false ite_true ite_false and_self and_true true_and and_false false_and or_false false_or or_true true_or not_true_eq_false not_false_eq_true ne_eq reduceCtorEq KM Option.map_none VK Option.bind_none
 Bool.and_true Vt Wa VL Bool.not_true Bool.not_false Km decide_true decide_false eq_self KS Vs beq_self_eq_true

attribute [go_sem] Nat.reduceAdd Nat.reduceSub Nat.reduceMul Nat.reduceDiv Nat.reduceMod Nat.reduceEqDiff Nat.reduceLeDiff Nat.reduceLT Nat.reduceBEq Nat.reducePow Int.reduceAdd Int.reduceSub Int.reduceMul Int.reduceEq Int.reduceLT Int.reduceLE Int.reduceToNat Int.reduceNeg Int.reduceBEq Int.reduceBNe
def qn0 (res:List ResV) (v:AV) (e:Ex) (s:St):Prop:=(e = .normal∨e = .ret)∧∃ u,results res s=some u∧frz s.heap 6 u=some v
theorem qh3 {res:List ResV} {v:AV} {e:Ex} {s:St} (he:e = .normal∨e = .ret) (h:(results res s).bind (frz s.heap 6)=some v):qn0 res v e s:=by
 cases hr:results res s with
 | none=>rw[hr] at h; cases h
 | some u=>rw[hr] at h; exact ⟨he,u,hr,h⟩
theorem qdU (res:List ResV) (v:AV) (s:St):qn0 res v .ret s=((results res s).bind (frz s.heap 6)=some v):=by
 apply propext
 constructor
 ·rintro ⟨_,u,h1,h2⟩
  rw[h1]; exact h2
 ·exact fun h=>qh3 (.inr rfl) h
theorem qa0 (res:List ResV) (v:AV) (s:St):qn0 res v .normal s=((results res s).bind (frz s.heap 6)=some v):=by
 apply propext
 constructor
 ·rintro ⟨_,u,h1,h2⟩
  rw[h1]; exact h2
 ·exact fun h=>qh3 (.inl rfl) h
attribute [go_sem] qdU qa0 results q6v
@[go_sem] theorem quF (H:Heap) (k:Go.IntKind) (n:Int):frz H 1 (.int k n)=some (.int k n):=(rfl)
@[go_sem] theorem qsi (H:Heap) (b:Bool):frz H 1 (.bool b)=some (.bool b):=(rfl)
@[go_sem] theorem qv3 (H:Heap) (b:List UInt8):frz H 1 (.str b)=some (.str b):=(rfl)
@[go_sem] theorem qum (H:Heap)  : frz H 1 .nilp=some .nilp:=(rfl)
@[go_sem] theorem qu0 (H:Heap)  : frz H 1 .nilf=some .nilf:=(rfl)
@[go_sem] theorem qtU (H:Heap)  : frz H 1 .nili=some .nili:=(rfl)
@[go_sem] theorem qrS (H:Heap)  : frz H 1 .nilm=some .nilm:=(rfl)
@[go_sem] theorem qv8 (H:Heap) (n:Nat) (l:List AV):frz H 1 (.tsl n l)=some (.tsl n l):=(rfl)
@[go_sem] theorem qtk (H:Heap) (cs:List AV) (o:Nat):frz H 1 (.tptr cs o)=some (.tptr cs o):=(rfl)
@[go_sem] theorem qtL (H:Heap) (n:Nat):frz H 1 (.snil n)=some (.tsl n []):=(rfl)
@[go_sem] theorem qv2 (H:Heap) (cs:List AV):frz H 1 (.agg cs)=(q1L (frz H 0) cs).map .agg:=(rfl)
@[go_sem] theorem qvn (H:Heap) (cs:List AV):frz H 1 (.tup cs)=(q1L (frz H 0) cs).map .tup:=(rfl)
@[go_sem] theorem qvW (H:Heap) (f:Nat) (cap:List AV):frz H 1 (.fn f cap)=(q1L (frz H 0) cap).map (.fn f):=(rfl)
@[go_sem] theorem qv1 (H:Heap) (n r i off:Nat):frz H 1 (.ptr n r i off) =
  match H[r]? with
  | some (.row n' els _ fl _)=>if n'=n then (match els[i]? with | some e=>if fl then some (.tptr e.cells off) else (q1L (frz H 0) e.cells).map fun cs=>.tptr cs off | none=>none) else none
  | _=>none:=(rfl)
@[go_sem] theorem qsV (H:Heap) (n r i len:Nat):frz H 1 (.sref n r i len) =
  match H[r]? with
  | some (.row n' els _ fl _)=>if n'=n∧i+len≤els.length then (if fl then some (.tsl n ((els.drop i).take len)) else (q1L (frz H 0) ((els.drop i).take len)).map (.tsl n)) else none
  | _=>none:=(rfl)
@[go_sem] theorem quL (H:Heap) (k:Go.IntKind) (n:Int):frz H 2 (.int k n)=some (.int k n):=(rfl)
@[go_sem] theorem qsG (H:Heap) (b:Bool):frz H 2 (.bool b)=some (.bool b):=(rfl)
@[go_sem] theorem qvm (H:Heap) (b:List UInt8):frz H 2 (.str b)=some (.str b):=(rfl)
@[go_sem] theorem qrD (H:Heap)  : frz H 2 .nilp=some .nilp:=(rfl)
@[go_sem] theorem qsc (H:Heap)  : frz H 2 .nilf=some .nilf:=(rfl)
@[go_sem] theorem qty (H:Heap)  : frz H 2 .nili=some .nili:=(rfl)
@[go_sem] theorem qsu (H:Heap)  : frz H 2 .nilm=some .nilm:=(rfl)
@[go_sem] theorem qvp (H:Heap) (n:Nat) (l:List AV):frz H 2 (.tsl n l)=some (.tsl n l):=(rfl)
@[go_sem] theorem qsT (H:Heap) (cs:List AV) (o:Nat):frz H 2 (.tptr cs o)=some (.tptr cs o):=(rfl)
@[go_sem] theorem qrP (H:Heap) (n:Nat):frz H 2 (.snil n)=some (.tsl n []):=(rfl)
@[go_sem] theorem quM (H:Heap) (cs:List AV):frz H 2 (.agg cs)=(q1L (frz H 1) cs).map .agg:=(rfl)
@[go_sem] theorem qv5 (H:Heap) (cs:List AV):frz H 2 (.tup cs)=(q1L (frz H 1) cs).map .tup:=(rfl)
@[go_sem] theorem qwz (H:Heap) (f:Nat) (cap:List AV):frz H 2 (.fn f cap)=(q1L (frz H 1) cap).map (.fn f):=(rfl)
@[go_sem] theorem qv7 (H:Heap) (n r i off:Nat):frz H 2 (.ptr n r i off) =
  match H[r]? with
  | some (.row n' els _ fl _)=>if n'=n then (match els[i]? with | some e=>if fl then some (.tptr e.cells off) else (q1L (frz H 1) e.cells).map fun cs=>.tptr cs off | none=>none) else none
  | _=>none:=(rfl)
@[go_sem] theorem qtT (H:Heap) (n r i len:Nat):frz H 2 (.sref n r i len) =
  match H[r]? with
  | some (.row n' els _ fl _)=>if n'=n∧i+len≤els.length then (if fl then some (.tsl n ((els.drop i).take len)) else (q1L (frz H 1) ((els.drop i).take len)).map (.tsl n)) else none
  | _=>none:=(rfl)
@[go_sem] theorem quE (H:Heap) (k:Go.IntKind) (n:Int):frz H 3 (.int k n)=some (.int k n):=(rfl)
@[go_sem] theorem qt8 (H:Heap) (b:Bool):frz H 3 (.bool b)=some (.bool b):=(rfl)
@[go_sem] theorem qvx (H:Heap) (b:List UInt8):frz H 3 (.str b)=some (.str b):=(rfl)
@[go_sem] theorem qs8 (H:Heap)  : frz H 3 .nilp=some .nilp:=(rfl)
@[go_sem] theorem qul (H:Heap)  : frz H 3 .nilf=some .nilf:=(rfl)
@[go_sem] theorem qsZ (H:Heap)  : frz H 3 .nili=some .nili:=(rfl)
@[go_sem] theorem qth (H:Heap)  : frz H 3 .nilm=some .nilm:=(rfl)
@[go_sem] theorem quV (H:Heap) (n:Nat) (l:List AV):frz H 3 (.tsl n l)=some (.tsl n l):=(rfl)
@[go_sem] theorem qrN (H:Heap) (cs:List AV) (o:Nat):frz H 3 (.tptr cs o)=some (.tptr cs o):=(rfl)
@[go_sem] theorem quy (H:Heap) (n:Nat):frz H 3 (.snil n)=some (.tsl n []):=(rfl)
@[go_sem] theorem quB (H:Heap) (cs:List AV):frz H 3 (.agg cs)=(q1L (frz H 2) cs).map .agg:=(rfl)
@[go_sem] theorem quJ (H:Heap) (cs:List AV):frz H 3 (.tup cs)=(q1L (frz H 2) cs).map .tup:=(rfl)
@[go_sem] theorem qwH (H:Heap) (f:Nat) (cap:List AV):frz H 3 (.fn f cap)=(q1L (frz H 2) cap).map (.fn f):=(rfl)
@[go_sem] theorem quK (H:Heap) (n r i off:Nat):frz H 3 (.ptr n r i off) =
  match H[r]? with
  | some (.row n' els _ fl _)=>if n'=n then (match els[i]? with | some e=>if fl then some (.tptr e.cells off) else (q1L (frz H 2) e.cells).map fun cs=>.tptr cs off | none=>none) else none
  | _=>none:=(rfl)
@[go_sem] theorem qu9 (H:Heap) (n r i len:Nat):frz H 3 (.sref n r i len) =
  match H[r]? with
  | some (.row n' els _ fl _)=>if n'=n∧i+len≤els.length then (if fl then some (.tsl n ((els.drop i).take len)) else (q1L (frz H 2) ((els.drop i).take len)).map (.tsl n)) else none
  | _=>none:=(rfl)
@[go_sem] theorem quH (H:Heap) (k:Go.IntKind) (n:Int):frz H 4 (.int k n)=some (.int k n):=(rfl)
@[go_sem] theorem qrT (H:Heap) (b:Bool):frz H 4 (.bool b)=some (.bool b):=(rfl)
@[go_sem] theorem quY (H:Heap) (b:List UInt8):frz H 4 (.str b)=some (.str b):=(rfl)
@[go_sem] theorem quw (H:Heap)  : frz H 4 .nilp=some .nilp:=(rfl)
@[go_sem] theorem qtG (H:Heap)  : frz H 4 .nilf=some .nilf:=(rfl)
@[go_sem] theorem qtg (H:Heap)  : frz H 4 .nili=some .nili:=(rfl)
@[go_sem] theorem qsw (H:Heap)  : frz H 4 .nilm=some .nilm:=(rfl)
@[go_sem] theorem qvg (H:Heap) (n:Nat) (l:List AV):frz H 4 (.tsl n l)=some (.tsl n l):=(rfl)
@[go_sem] theorem qsx (H:Heap) (cs:List AV) (o:Nat):frz H 4 (.tptr cs o)=some (.tptr cs o):=(rfl)
@[go_sem] theorem qsY (H:Heap) (n:Nat):frz H 4 (.snil n)=some (.tsl n []):=(rfl)
@[go_sem] theorem qvh (H:Heap) (cs:List AV):frz H 4 (.agg cs)=(q1L (frz H 3) cs).map .agg:=(rfl)
@[go_sem] theorem qvw (H:Heap) (cs:List AV):frz H 4 (.tup cs)=(q1L (frz H 3) cs).map .tup:=(rfl)
@[go_sem] theorem qw4 (H:Heap) (f:Nat) (cap:List AV):frz H 4 (.fn f cap)=(q1L (frz H 3) cap).map (.fn f):=(rfl)
@[go_sem] theorem quZ (H:Heap) (n r i off:Nat):frz H 4 (.ptr n r i off) =
  match H[r]? with
  | some (.row n' els _ fl _)=>if n'=n then (match els[i]? with | some e=>if fl then some (.tptr e.cells off) else (q1L (frz H 3) e.cells).map fun cs=>.tptr cs off | none=>none) else none
  | _=>none:=(rfl)
@[go_sem] theorem qtA (H:Heap) (n r i len:Nat):frz H 4 (.sref n r i len) =
  match H[r]? with
  | some (.row n' els _ fl _)=>if n'=n∧i+len≤els.length then (if fl then some (.tsl n ((els.drop i).take len)) else (q1L (frz H 3) ((els.drop i).take len)).map (.tsl n)) else none
  | _=>none:=(rfl)
@[go_sem] theorem qv0 (H:Heap) (k:Go.IntKind) (n:Int):frz H 5 (.int k n)=some (.int k n):=(rfl)
@[go_sem] theorem qrG (H:Heap) (b:Bool):frz H 5 (.bool b)=some (.bool b):=(rfl)
@[go_sem] theorem quC (H:Heap) (b:List UInt8):frz H 5 (.str b)=some (.str b):=(rfl)
@[go_sem] theorem qu2 (H:Heap)  : frz H 5 .nilp=some .nilp:=(rfl)
@[go_sem] theorem qsz (H:Heap)  : frz H 5 .nilf=some .nilf:=(rfl)
@[go_sem] theorem qrF (H:Heap)  : frz H 5 .nili=some .nili:=(rfl)
@[go_sem] theorem qs7 (H:Heap)  : frz H 5 .nilm=some .nilm:=(rfl)
@[go_sem] theorem quS (H:Heap) (n:Nat) (l:List AV):frz H 5 (.tsl n l)=some (.tsl n l):=(rfl)
@[go_sem] theorem qtO (H:Heap) (cs:List AV) (o:Nat):frz H 5 (.tptr cs o)=some (.tptr cs o):=(rfl)
@[go_sem] theorem qud (H:Heap) (n:Nat):frz H 5 (.snil n)=some (.tsl n []):=(rfl)
@[go_sem] theorem qvo (H:Heap) (cs:List AV):frz H 5 (.agg cs)=(q1L (frz H 4) cs).map .agg:=(rfl)
@[go_sem] theorem qvA (H:Heap) (cs:List AV):frz H 5 (.tup cs)=(q1L (frz H 4) cs).map .tup:=(rfl)
@[go_sem] theorem qwf (H:Heap) (f:Nat) (cap:List AV):frz H 5 (.fn f cap)=(q1L (frz H 4) cap).map (.fn f):=(rfl)
@[go_sem] theorem qv4 (H:Heap) (n r i off:Nat):frz H 5 (.ptr n r i off) =
  match H[r]? with
  | some (.row n' els _ fl _)=>if n'=n then (match els[i]? with | some e=>if fl then some (.tptr e.cells off) else (q1L (frz H 4) e.cells).map fun cs=>.tptr cs off | none=>none) else none
  | _=>none:=(rfl)
@[go_sem] theorem qtv (H:Heap) (n r i len:Nat):frz H 5 (.sref n r i len) =
  match H[r]? with
  | some (.row n' els _ fl _)=>if n'=n∧i+len≤els.length then (if fl then some (.tsl n ((els.drop i).take len)) else (q1L (frz H 4) ((els.drop i).take len)).map (.tsl n)) else none
  | _=>none:=(rfl)
@[go_sem] theorem qvl (H:Heap) (k:Go.IntKind) (n:Int):frz H 6 (.int k n)=some (.int k n):=(rfl)
@[go_sem] theorem qs5 (H:Heap) (b:Bool):frz H 6 (.bool b)=some (.bool b):=(rfl)
@[go_sem] theorem qva (H:Heap) (b:List UInt8):frz H 6 (.str b)=some (.str b):=(rfl)
@[go_sem] theorem qrV (H:Heap)  : frz H 6 .nilp=some .nilp:=(rfl)
@[go_sem] theorem qt2 (H:Heap)  : frz H 6 .nilf=some .nilf:=(rfl)
@[go_sem] theorem qs9 (H:Heap)  : frz H 6 .nili=some .nili:=(rfl)
@[go_sem] theorem qtY (H:Heap)  : frz H 6 .nilm=some .nilm:=(rfl)
@[go_sem] theorem qvu (H:Heap) (n:Nat) (l:List AV):frz H 6 (.tsl n l)=some (.tsl n l):=(rfl)
@[go_sem] theorem qtC (H:Heap) (cs:List AV) (o:Nat):frz H 6 (.tptr cs o)=some (.tptr cs o):=(rfl)
@[go_sem] theorem qtH (H:Heap) (n:Nat):frz H 6 (.snil n)=some (.tsl n []):=(rfl)
@[go_sem] theorem quP (H:Heap) (cs:List AV):frz H 6 (.agg cs)=(q1L (frz H 5) cs).map .agg:=(rfl)
@[go_sem] theorem qvd (H:Heap) (cs:List AV):frz H 6 (.tup cs)=(q1L (frz H 5) cs).map .tup:=(rfl)
@[go_sem] theorem qwG (H:Heap) (f:Nat) (cap:List AV):frz H 6 (.fn f cap)=(q1L (frz H 5) cap).map (.fn f):=(rfl)
@[go_sem] theorem qvb (H:Heap) (n r i off:Nat):frz H 6 (.ptr n r i off) =
  match H[r]? with
  | some (.row n' els _ fl _)=>if n'=n then (match els[i]? with | some e=>if fl then some (.tptr e.cells off) else (q1L (frz H 5) e.cells).map fun cs=>.tptr cs off | none=>none) else none
  | _=>none:=(rfl)
@[go_sem] theorem qrL (H:Heap) (n r i len:Nat):frz H 6 (.sref n r i len) =
  match H[r]? with
  | some (.row n' els _ fl _)=>if n'=n∧i+len≤els.length then (if fl then some (.tsl n ((els.drop i).take len)) else (q1L (frz H 5) ((els.drop i).take len)).map (.tsl n)) else none
  | _=>none:=(rfl)
end
section
variable {C:Ctx}
theorem q05 {f:Nat} (fn:AFn) {ts:List AV} {v:AV} (hf:C.code f=some fn) (h : @q19 (enter fn ts []) ⟨aw (q1z C) (q0m C) fn.body (qn0 fn.res v)⟩):q0m C f ts v:=qhK hf h
end
section
variable {R:Nat→List AV→Heap→AV→Heap→Prop} {PR:Nat→List AV→AV→Prop}
theorem q0a {α:Type} {live:List Nat} {b:ACode} {Q:Ex→St→Prop} {s:St} (st:α→St) (Inv:α→Prop) (μ:α→Nat) (a0:α) (h0:s.norm live=st a0) (hi:Inv a0)
  (round : ∀ a,Inv a→aw R PR b (q8R (fun t=>∃ a',t.norm live=st a'∧Inv a'∧μ a'<μ a) Q) (st a)) (hz:q71 live=[]:=by rfl) : @qg5 live s ⟨R,PR,b,Q⟩:=by
 refine qr6 st Inv μ a0 (by rw[q9R hz]; exact h0) hi ?_
 simp only[q9R hz]
 exact round
theorem q00 {f:Nat} {ts:List AV} {k:AV→Prop} (v:AV) (h:PR f ts v) (hk:k v) : @qfO PR f ts ⟨k⟩:=⟨v,h,hk⟩
theorem q0b {f:Nat} {args:List AV} {H:Heap} {k:AV→Heap→Prop} (v:AV) (H':Heap) (h:R f args H v H') (hk:k v H') : @qdc R f args H ⟨k⟩:=⟨v,H',h,hk⟩
end
end Ago


namespace Ago
open Go (IntKind)

theorem w64 {n:Int} (h1 : -9223372036854775808≤n) (h2:n<9223372036854775808):IntKind.wrap .i64 n=n:=by
 simp [IntKind.wrap,IntKind.bits,IntKind.signed]
 split<;>omega
theorem qx6 (c:UInt8):IntKind.wrap .i64 (c.toNat:Int)=c.toNat:=by
 have:=c.toNat_lt
 exact w64 (by omega) (by omega)
theorem w8 {n:Int} (h1:0≤n) (h2:n<256):IntKind.wrap .u8 n=n:=by
 simp [IntKind.wrap,IntKind.bits,IntKind.signed]
 omega

theorem dT {a b:Int} (h:a<b):decide (a<b)=true:=by simp [h]
theorem dF {a b:Int} (h:b≤a):decide (a<b)=false:=by simp; omega
theorem dlT {a b:Int} (h:a≤b):decide (a≤b)=true:=by simp [h]
theorem dlF {a b:Int} (h:b<a):decide (a≤b)=false:=by simp; omega
theorem qxj {a b:Int} (h:a=b):(a == b)=true:=by simp [h]
theorem qxf {a b:Int} (h : ¬ a=b):(a == b)=false:=by simp [h]
theorem qwW {a b:Int} (h : ¬ a=b):(a != b)=true:=by simp [h]
theorem qxg {a b:Int} (h:a=b):(a != b)=false:=by simp [h]
theorem leT {a b:Int} (h:a≤b):(a≤b)=True:=by simp [h]
theorem ltT {a b:Int} (h:a<b):(a<b)=True:=by simp [h]
theorem qx7 {a b:Nat} (h:a≤b):(a≤b)=True:=by simp [h]

@[go_sem] theorem qrn (s:St) (t:Nat) (b:Bool) (h:s.tmps[t]?=some (.tup [])):s.wanted (some (t,b))=some false:=by simp [St.wanted,h]

def q0i (n:Nat) (l:List (Nat × AV)):List AV:=l.foldl (fun s x=>s.set x.1 x.2) (List.replicate n .dead)
end Ago
namespace Ago
section
variable {p:Prop} [Decidable p] {A B:Prop} {a b:Int} {c:Bool}
theorem qkm (h1 : ¬ p→A) (h2:p→B) : @q1e (some (decide p == false)) ⟨A⟩ ⟨B⟩:=by
 by_cases h:p
 ·simpa [q1e,q38,h] using h2 h
 ·simpa [q1e,q38,h] using h1 h
theorem qkw (h1:p→A) (h2 : ¬ p→B) : @q1e (some (decide p == true)) ⟨A⟩ ⟨B⟩:=by
 by_cases h:p
 ·simpa [q1e,q38,h] using h1 h
 ·simpa [q1e,q38,h] using h2 h
theorem q88:(a == b)=decide (a=b):=by by_cases h:a=b<;>simp [h]
theorem qam:(a != b)=decide (¬ a=b):=by by_cases h:a=b<;>simp [h]
theorem qt9 (h1 : ¬ a=b→A) (h2:a=b→B) : @q1e (some ((a == b) == false)) ⟨A⟩ ⟨B⟩:=by
 rw[q88]
 exact qkm h1 h2
theorem qrU (h1:a=b→A) (h2 : ¬ a=b→B) : @q1e (some ((a == b) == true)) ⟨A⟩ ⟨B⟩:=by
 rw[q88]
 exact qkw h1 h2
theorem qsl (h1:a=b→A) (h2 : ¬ a=b→B) : @q1e (some ((a != b) == false)) ⟨A⟩ ⟨B⟩:=by
 rw[qam]
 exact qkm (fun h=>h1 (Classical.not_not.1 h)) h2
theorem qrK (h1 : ¬ a=b→A) (h2:a=b→B) : @q1e (some ((a != b) == true)) ⟨A⟩ ⟨B⟩:=by
 rw[qam]
 exact qkw h1 (fun h=>h2 (Classical.not_not.1 h))
theorem qto (h1:c=false→A) (h2:c=true→B) : @q1e (some (c == false)) ⟨A⟩ ⟨B⟩:=by
 cases c
 ·exact h1 rfl
 ·exact h2 rfl
theorem qtR (h1:c=true→A) (h2:c=false→B) : @q1e (some (c == true)) ⟨A⟩ ⟨B⟩:=by
 cases c
 ·exact h2 rfl
 ·exact h1 rfl
theorem qqQ (h1:p→A) (h2 : ¬ p→B) : @q2C (.bool (decide p)) ⟨A⟩ ⟨B⟩:=by
 by_cases h:p
 ·simpa [q2C,q7v,h] using h1 h
 ·simpa [q2C,q7v,h] using h2 h
theorem qwt (h1:a=b→A) (h2 : ¬ a=b→B) : @q2C (.bool (a == b)) ⟨A⟩ ⟨B⟩:=by
 rw[q88]
 exact qqQ h1 h2
theorem qvN (h1 : ¬ a=b→A) (h2:a=b→B) : @q2C (.bool (a != b)) ⟨A⟩ ⟨B⟩:=by
 rw[qam]
 exact qqQ h1 (fun h=>h2 (Classical.not_not.1 h))
theorem qw5 (h1:c=true→A) (h2:c=false→B) : @q2C (.bool c) ⟨A⟩ ⟨B⟩:=by
 cases c
 ·exact h2 rfl
 ·exact h1 rfl
theorem qtj (h1:c=false→A) (h2:c=true→B) : @q2C (.bool (!c)) ⟨A⟩ ⟨B⟩:=by
 cases c
 ·exact h1 rfl
 ·exact h2 rfl
theorem qpJ (h1:c=true→A) (h2:c=false→B) : @q1e (some ((!c) == false)) ⟨A⟩ ⟨B⟩:=by
 cases c
 ·exact h2 rfl
 ·exact h1 rfl
theorem qpZ (h1:c=false→A) (h2:c=true→B) : @q1e (some ((!c) == true)) ⟨A⟩ ⟨B⟩:=by
 cases c
 ·exact h1 rfl
 ·exact h2 rfl
end
end Ago
namespace Ago
@[go_sem] theorem bTT:(true == true)=true:=(rfl)
@[go_sem] theorem bTF:(true == false)=false:=(rfl)
@[go_sem] theorem bFT:(false == true)=false:=(rfl)
@[go_sem] theorem bFF:(false == false)=true:=(rfl)
end Ago
namespace Ago
def qhU (res:List ResV) (k:AV→Prop) (e:Ex) (s:St):Prop:=(e = .normal∨e = .ret)∧q3x ((results res s).bind (frz s.heap 6)) k
@[go_sem] theorem qtt (res:List ResV) (k:AV→Prop) (s:St):qhU res k .ret s=q3x ((results res s).bind (frz s.heap 6)) k:=by simp [qhU]
@[go_sem] theorem qoW (res:List ResV) (k:AV→Prop) (s:St):qhU res k .normal s=q3x ((results res s).bind (frz s.heap 6)) k:=by simp [qhU]
@[go_sem] theorem qq5 {α:Type} (v:α) (k:α→Prop):q3x (some v) k=k v:=(rfl)
theorem q4I {C:Ctx} {f:Nat} (fn:AFn) {ts:List AV} {k:AV→Prop} (hf:C.code f=some fn) (h : @q19 (enter fn ts []) ⟨aw (q1z C) (q0m C) fn.body (qhU fn.res k)⟩) : ∃ v,q0m C f ts v∧k v:=by
 obtain ⟨e,s,h1,he,h2⟩:=q2P fn.body (qhU fn.res k) _ h
 obtain ⟨v,h3,h4⟩:=q1B h2
 obtain ⟨u,h5,h6⟩:=VM.1 h3
 exact ⟨v,.prun hf h1 he h5 h6,h4⟩
theorem qsU:lim=2147483648:=(rfl)
theorem qwx:((0:Nat):Int)=0:=(rfl)
theorem qvS:((1:Nat):Int)=1:=(rfl)
attribute [go_sem] q0i VH List.flatMap_nil Kj qx6 qsU Int.reducePow qwx qvS Int.cast_ofNat_Int w64 w8 dT dF dlT dlF qxj qxf qwW qxg leT ltT qx7 V2

def qac (code:Nat→Option AFn) (clR clP:Nat→Option (Nat × Nat)):Ctx where
 code:=code
 prim f args H v H':=∃ p x,clR f=some p∧args=[x]∧q2D p.1 p.2 (H++[.gone]) [.snil p.1,x]=some (v,H')
 pprim f ts v:=∃ p l,clP f=some p∧ts=[.tsl p.1 l]∧l.length≤lim∧l.length * p.2≤2^40∧v = .tsl p.1 l
theorem qoX {code:Nat→Option AFn} {clR clP:Nat→Option (Nat × Nat)} {f n b:Nat} (h:clP f=some (n,b)) (l:List AV) (h1:l.length≤lim) (h2:l.length * b≤2^40):q0m (qac code clR clP) f [.tsl n l] (.tsl n l):=
 .pprim ⟨(n,b),l,h,rfl,h1,h2,rfl⟩
attribute [irreducible] q5H q2C q1e qpD qpr q19 qdc qfO qg5
end Ago
namespace Ago
abbrev Za (d i:Nat):AOper:=⟨some d,.pure .move,[.t i],none⟩
abbrev Zb (d i t:Nat) (b:Bool):AOper:=⟨some d,.pure .move,[.t i],some (t,b)⟩
abbrev Zc (d:Nat) (c:AV):AOper:=⟨some d,.pure .move,[.c c],none⟩
abbrev Zd (d i:Nat):AOper:=⟨some d,.read (.load none),[.t i],none⟩
abbrev Ze (d i t:Nat) (b:Bool):AOper:=⟨some d,.read (.load none),[.t i],some (t,b)⟩
abbrev Zf (d i n:Nat):AOper:=⟨some d,.read (.load (some n)),[.t i],none⟩
abbrev Zg (d i n t:Nat) (b:Bool):AOper:=⟨some d,.read (.load (some n)),[.t i],some (t,b)⟩
abbrev Zh (d i n:Nat):AOper:=⟨some d,.pure (.faddr n),[.t i],none⟩
abbrev Zi (d i n t:Nat) (b:Bool):AOper:=⟨some d,.pure (.faddr n),[.t i],some (t,b)⟩
abbrev Zj (d i j n:Nat):AOper:=⟨some d,.pure (.iaddrS n),[.t i,.t j],none⟩
abbrev Zk (d i j n t:Nat) (b:Bool):AOper:=⟨some d,.pure (.iaddrS n),[.t i,.t j],some (t,b)⟩
abbrev Zl (d i j:Nat) (o:Go.BinOp):AOper:=⟨some d,.pure (.bin o),[.t i,.t j],none⟩
abbrev Zn (d i:Nat) (c:Int) (o:Go.BinOp):AOper:=⟨some d,.pure (.bin o),[.t i,.c (.int .i64 c)],none⟩
abbrev Zs (d i t:Nat) (b:Bool):AOper:=⟨some d,.pure (.un .not),[.t i],some (t,b)⟩
abbrev Zu (i j n:Nat):AOper:=⟨none,.eff (.store n),[.t i,.t j],none⟩
abbrev Zw (d i j:Nat) (c:Bool):AOper:=⟨some d,.pure .pick,[.t i,.c (.bool c),.t j],none⟩
abbrev Zx (d i n:Nat):AOper:=⟨some d,.new (.box n),[.t i],none⟩
abbrev ZC (d f i j t:Nat) (b:Bool):AOper:=⟨some d,.pcall f,[.t i,.t j],some (t,b)⟩
end Ago
namespace Ago
section
variable {R:Nat→List AV→Heap→AV→Heap→Prop} {PR:Nat→List AV→AV→Prop}

theorem q1w : ∀ (l:List AOper) (K:St→Prop) (s:St),q1l R PR l K s→∃ s',q1l R PR l (fun t=>t=s') s∧K s'
 | [],K,s,h=>⟨s,rfl,h⟩
 | ⟨dst,op,args,g⟩::l,K,s,h=>by
  unfold q1l at h
  rcases qat h with ⟨hw,h⟩ | ⟨hw,h⟩
  ·cases op with
   | pure p=>
    obtain ⟨v,hv,h⟩:=q1B h
    obtain ⟨s',h1,h2⟩:=q1w l K _ h
    refine ⟨s',?_,h2⟩
    unfold q1l
    simp only[hw,q38,hv,q3x]
    exact h1
   | read p=>
    obtain ⟨v,hv,h⟩:=q1B h
    obtain ⟨s',h1,h2⟩:=q1w l K _ h
    refine ⟨s',?_,h2⟩
    unfold q1l
    simp only[hw,q38,hv,q3x]
    exact h1
   | new p=>
    obtain ⟨v,hv,h⟩:=q1B h
    obtain ⟨s',h1,h2⟩:=q1w l K _ h
    refine ⟨s',?_,h2⟩
    unfold q1l
    simp only[hw,q38,hv,q3x]
    exact h1
   | newAt j p=>
    obtain ⟨v,hv,hf,h⟩:=qeJ h
    obtain ⟨s',h1,h2⟩:=q1w l K _ h
    refine ⟨s',?_,h2⟩
    unfold q1l
    simp only[hw,q38,hv,hf,qox]
    exact h1
   | eff p=>
    obtain ⟨v,hv,h⟩:=q1B h
    obtain ⟨s',h1,h2⟩:=q1w l K _ h
    refine ⟨s',?_,h2⟩
    unfold q1l
    simp only[hw,q38,hv,q3x]
    exact h1
   | call f=>
    obtain ⟨v,H',hr,h⟩:=h
    obtain ⟨s',h1,h2⟩:=q1w l K _ h
    refine ⟨s',?_,h2⟩
    unfold q1l
    simp only[hw,q38]
    exact ⟨v,H',hr,h1⟩
   | pcall f=>
    obtain ⟨ts,ha,v,hr,h⟩:=q1B h
    obtain ⟨s',h1,h2⟩:=q1w l K _ h
    refine ⟨s',?_,h2⟩
    unfold q1l
    simp only[hw,q38,ha,q3x]
    exact ⟨v,hr,h1⟩
   | callv=>
    obtain ⟨f,cap,as,ha,v,H',hr,h⟩:=qeb h
    obtain ⟨s',h1,h2⟩:=q1w l K _ h
    refine ⟨s',?_,h2⟩
    unfold q1l
    simp only[hw,q38,ha,qoT]
    exact ⟨v,H',hr,h1⟩
   | bad=>exact h.elim
  ·obtain ⟨s',h1,h2⟩:=q1w l K _ h
   refine ⟨s',?_,h2⟩
   unfold q1l
   simp only[hw,q38]
   exact h1

@[go_sem ↓] theorem quR (k:Nat) (l:List AOper) (Q:Ex→St→Prop) (s:St):aw R PR (.draw k [l]) Q s = @q19 (s.keep k) ⟨q1l R PR l fun t=>Q .normal { t with rb:=0 }⟩:=by
 apply propext
 unfold q19
 constructor
 ·rintro ⟨s',_,h1,h2⟩
  exact q1N (fun t ht=>by rw[ht]; exact h2) l _ (h1 l (by simp))
 ·intro h
  obtain ⟨s',h1,h2⟩:=q1w l _ _ h
  exact ⟨s',by simp,fun l' hl'=>by rw[Kx.1 hl']; exact h1,h2⟩

@[go_sem] theorem q20 (tm:List AV) (h:Heap) (b rb k:Nat):St.keep ⟨tm,h,b,rb⟩ k=⟨tm,h++List.replicate k .resv,b,h.length⟩:=(rfl)
end
end Ago
namespace Ago
theorem qkI {C C':Ctx} (h1 : ∀ f fn,C.code f=some fn→C'.code f=some fn) (h2 : ∀ f a H v H',C.prim f a H v H'→C'.prim f a H v H') (h3 : ∀ f t v,C.pprim f t v→C'.pprim f t v) {j:J} (h:BS C j):BS C' j:=by
 induction h with
 | prim h=>exact .prim (h2 _ _ _ _ _ h)
 | pprim h=>exact .pprim (h3 _ _ _ h)
 | nil s=>exact .nil s
 | pass hw _ ih=>exact .pass hw ih
 | pure hw ho hv _ ih=>exact .pure hw ho hv ih
 | read hw ho hv _ ih=>exact .read hw ho hv ih
 | new hw ho hv _ ih=>exact .new hw ho hv ih
 | newAt hw ho hv hf _ ih=>exact .newAt hw ho hv hf ih
 | eff hw ho hv _ ih=>exact .eff hw ho hv ih
 | call hw ho _ _ ihv ih=>exact .call hw ho ihv ih
 | pcall hw ho ha _ _ ihr ih=>exact .pcall hw ho ha ihr ih
 | callv hw ho ha _ _ ihv ih=>exact .callv hw ho ha ihv ih
 | skip s=>exact .skip s
 | ops _ ih=>exact .ops ih
 | draw hne _ ih=>exact .draw hne ih
 | seq _ _ ih1 ih2=>exact .seq ih1 ih2
 | seqE _ he ih=>exact .seqE ih he
 | condT hx _ ih=>exact .condT hx ih
 | condF hx _ ih=>exact .condF hx ih
 | block _ ih=>exact .block ih
 | scope _ ih=>exact .scope ih
 | loop _ _ ih1 ih2=>exact .loop ih1 ih2
 | loopE _ he ih=>exact .loopE ih he
 | exit id s=>exact .exit id s
 | ret s=>exact .ret s
 | run hf _ he hr ih=>exact .run (by rw[h1]; exact hf) ih he hr
 | prun hf _ he hr hv ih=>exact .prun (by rw[h1]; exact hf) ih he hr hv
end Ago
namespace Ago
def ACode.live:ACode→List (List Nat)→ACode × List (List Nat)
 | .seq a b,L=>(.seq (live a L).1 (live b (live a L).2).1,(live b (live a L).2).2)
 | .cond x a b,L=>(.cond x (live a L).1 (live b (live a L).2).1,(live b (live a L).2).2)
 | .block i b,L=>(.block i (live b L).1,(live b L).2)
 | .scope b,L=>(.scope (live b L).1,(live b L).2)
 | .loop _ b,L=>(.loop (L.headD []) (live b L.tail).1,(live b L.tail).2)
 | c,L=>(c,L)
def qtN (l:List (Nat × Nat)) (g:Go.FuncId):Option Nat:=(l.find? fun p=>p.1 == g).map (·.2)
noncomputable def qoD (P:Go.Program) (l:List (Nat × Nat)) (q:Nat→Bool) (L:List (List Nat)) (g:Go.Func):Option AFn:=(q9U P (qtN l) q g).map fun f=>{ f with body:=(ACode.live f.body L).1 }
def sub:List Nat→Go.Code→Go.Code
 | 0::l,.seq a _=>sub l a
 | 1::l,.seq _ b=>sub l b
 | 0::l,.cond _ a _=>sub l a
 | 1::l,.cond _ _ b=>sub l b
 | 0::l,.block _ a=>sub l a
 | 0::l,.scope a=>sub l a
 | 0::l,.loop a=>sub l a
 | _,c=>c
def q0I (g:Go.Func):Go.Code:=match g.body with
 | some c=>c
 | none=>.skip
noncomputable def qoG (P:Go.Program) (l:List (Nat × Nat)) (q:Nat→Bool) (L:List (List Nat)) (c:Go.Code):Option ACode:=(comp P (qtN l) q c).map fun a=>(ACode.live a L).1
end Ago

namespace Ago
class Spl (p:Prop) (a b:outParam Prop):Prop where
 go:a→b→p
theorem spl {p a b:Prop} [s:Spl p a b] (h1:a) (h2:b):p:=s.go h1 h2
section
variable {p:Prop} [Decidable p] {A B:Prop} {a b:Int} {c:Bool}
instance:Spl (@q2C (.bool c) ⟨A⟩ ⟨B⟩) (c=true→A) (c=false→B):=⟨qw5⟩
instance:Spl (@q2C (.bool (!c)) ⟨A⟩ ⟨B⟩) (c=false→A) (c=true→B):=⟨qtj⟩
instance:Spl (@q2C (.bool (a != b)) ⟨A⟩ ⟨B⟩) (¬ a=b→A) (a=b→B):=⟨qvN⟩
instance:Spl (@q2C (.bool (a == b)) ⟨A⟩ ⟨B⟩) (a=b→A) (¬ a=b→B):=⟨qwt⟩
instance:Spl (@q2C (.bool (decide p)) ⟨A⟩ ⟨B⟩) (p→A) (¬ p→B):=⟨qqQ⟩
instance:Spl (@q1e (some (c == true)) ⟨A⟩ ⟨B⟩) (c=true→A) (c=false→B):=⟨qtR⟩
instance:Spl (@q1e (some (c == false)) ⟨A⟩ ⟨B⟩) (c=false→A) (c=true→B):=⟨qto⟩
instance:Spl (@q1e (some ((!c) == true)) ⟨A⟩ ⟨B⟩) (c=false→A) (c=true→B):=⟨qpZ⟩
instance:Spl (@q1e (some ((!c) == false)) ⟨A⟩ ⟨B⟩) (c=true→A) (c=false→B):=⟨qpJ⟩
instance:Spl (@q1e (some ((a != b) == true)) ⟨A⟩ ⟨B⟩) (¬ a=b→A) (a=b→B):=⟨qrK⟩
instance:Spl (@q1e (some ((a != b) == false)) ⟨A⟩ ⟨B⟩) (a=b→A) (¬ a=b→B):=⟨qsl⟩
instance:Spl (@q1e (some ((a == b) == true)) ⟨A⟩ ⟨B⟩) (a=b→A) (¬ a=b→B):=⟨qrU⟩
instance:Spl (@q1e (some ((a == b) == false)) ⟨A⟩ ⟨B⟩) (¬ a=b→A) (a=b→B):=⟨qt9⟩
instance:Spl (@q1e (some (decide p == true)) ⟨A⟩ ⟨B⟩) (p→A) (¬ p→B):=⟨qkw⟩
instance:Spl (@q1e (some (decide p == false)) ⟨A⟩ ⟨B⟩) (¬ p→A) (p→B):=⟨qkm⟩
end
end Ago
