/- The abstract machine computed by simp: the transformer's equations,one an operation,the continuation behind a word that simp does not enter. -/
import Derived.Test.YtjeahlpkonkjiaaGreatDoorMachA
import Derived.Attr
set_option linter.unusedSimpArgs false
set_option linter.unusedVariables false
namespace Ago
section
variable {R:Nat→List AV→Heap→AV→Heap→Prop} {PR:Nat→List AV→AV→Prop}

class KF (α:Type) where
 k:α→Prop
class KP where
 p:Prop
class KC where
 k:AV→Heap→Prop
class KN where
 k:Nat→List AV→Prop
class KL where
 R:Nat→List AV→Heap→AV→Heap→Prop
 PR:Nat→List AV→AV→Prop
 b:ACode
 Q:Ex→St→Prop

def q5H {α:Type} (x:Option α) [c:KF α]:Prop:=q3k x c.k
def q2v (x:AV) [a:KP] [b:KP]:Prop:=q7j x a.p b.p
def q11 (x:Option Bool) [a:KP] [b:KP]:Prop:=q2O x a.p b.p
def qrx (x:Option (AV × Blk)) (y:Option Blk) [c:KF (AV × Blk)]:Prop:=qqC x y c.k
def qrA (l:List AV) [c:KN]:Prop:=qqQ l c.k
def q0V (s:St) [c:KF St]:Prop:=c.k s
def qdp (R:Nat→List AV→Heap→AV→Heap→Prop) (f:Nat) (args:List AV) (H:Heap) [c:KC]:Prop:=qkc R f args H c.k
def qg0 (PR:Nat→List AV→AV→Prop) (f:Nat) (ts:List AV) [c:KF AV]:Prop:=qqy PR f ts c.k
def qgH (live:List Nat) (s:St) [c:KL]:Prop:=aw c.R c.PR (.loop live c.b) c.Q s

@[go_sem] theorem qqr {α:Type} (v:α) (c:KF α) : @q5H α (some v) c=c.k v:=(rfl)
@[go_sem] theorem qqA {α:Type} (c:KF α) : @q5H α none c=False:=(rfl)
@[go_sem] theorem qqt (a b:KP) : @q2v (.bool true) a b=a.p:=(rfl)
@[go_sem] theorem qoE (a b:KP) : @q2v (.bool false) a b=b.p:=(rfl)
@[go_sem] theorem qqD (a b:KP) : @q11 (some true) a b=a.p:=(rfl)
@[go_sem] theorem qox (a b:KP) : @q11 (some false) a b=b.p:=(rfl)
@[go_sem] theorem qsZ (v:AV × Blk) (c:KF (AV × Blk)) : @qrx (some v) (some .resv) c=c.k v:=(rfl)
@[go_sem] theorem qwT (f:Nat) (cap args:List AV) (c:KN) : @qrA (.fn f cap::args) c=c.k f (args++cap):=(rfl)
@[go_sem] theorem qt6 (tm:List AV) (h:Heap) (b rb:Nat) (c:KF St) : @q0V ⟨tm,h,b,rb⟩ c=c.k ⟨tm,h,b,rb⟩:=(rfl)

@[go_sem] theorem qwG (tm:List AV) (h H:Heap) (b rb d:Nat) (v:AV):St.put ⟨tm,h,b,rb⟩ (some d) v H=⟨tm.set d v,H,b,rb⟩:=(rfl)
@[go_sem] theorem qxm (tm:List AV) (h H:Heap) (b rb:Nat) (v:AV):St.put ⟨tm,h,b,rb⟩ none v H=⟨tm,H,b,rb⟩:=(rfl)
@[go_sem] theorem qyI (tm:List AV) (h:Heap) (b rb i:Nat):St.eval ⟨tm,h,b,rb⟩ (.t i)=tm.getD i undef:=(rfl)
@[go_sem] theorem qyF (s:St) (v:AV):s.eval (.c v)=v:=(rfl)

@[go_sem ↓] theorem qvN (K:St→Prop) (s:St):q1a R PR [] K s=K s:=(rfl)
@[go_sem ↓] theorem qt3 (dst:Option Nat) (p:POp) (args:List Opd) (l:List AOper) (K:St→Prop) (s:St) :
  q1a R PR (⟨dst,.pure p,args,none⟩::l) K s = @q5H _ (p.exec (args.map s.eval)) ⟨fun v=>@q0V (s.put dst v s.heap) ⟨q1a R PR l K⟩⟩:=(rfl)
@[go_sem ↓] theorem qt8 (dst:Option Nat) (p:ROp) (args:List Opd) (l:List AOper) (K:St→Prop) (s:St) :
  q1a R PR (⟨dst,.read p,args,none⟩::l) K s = @q5H _ (p.exec (args.map s.eval) s.heap) ⟨fun v=>@q0V (s.put dst v s.heap) ⟨q1a R PR l K⟩⟩:=(rfl)
@[go_sem ↓] theorem qvz (dst:Option Nat) (p:NOp) (args:List Opd) (l:List AOper) (K:St→Prop) (s:St) :
  q1a R PR (⟨dst,.new p,args,none⟩::l) K s = @q5H _ (p.exec (args.map s.eval) s.heap.length) ⟨fun v=>@q0V (s.put dst v.1 (s.heap++[v.2])) ⟨q1a R PR l K⟩⟩:=(rfl)
@[go_sem ↓] theorem qrc (dst:Option Nat) (j:Nat) (p:NOp) (args:List Opd) (l:List AOper) (K:St→Prop) (s:St) :
  q1a R PR (⟨dst,.newAt j p,args,none⟩::l) K s = @qrx (p.exec (args.map s.eval) (s.rb+j)) s.heap[s.rb+j]? ⟨fun v=>@q0V (s.put dst v.1 (s.heap.set (s.rb+j) v.2)) ⟨q1a R PR l K⟩⟩:=(rfl)
@[go_sem ↓] theorem qtb (dst:Option Nat) (p:EOp) (args:List Opd) (l:List AOper) (K:St→Prop) (s:St) :
  q1a R PR (⟨dst,.eff p,args,none⟩::l) K s = @q5H _ (p.exec (args.map s.eval) s.heap) ⟨fun v=>@q0V (s.put dst v.1 v.2) ⟨q1a R PR l K⟩⟩:=(rfl)
@[go_sem ↓] theorem qsT (dst:Option Nat) (f:Nat) (args:List Opd) (l:List AOper) (K:St→Prop) (s:St) :
  q1a R PR (⟨dst,.call f,args,none⟩::l) K s = @qdp R f (args.map s.eval) s.heap ⟨fun v H'=>@q0V (s.put dst v H') ⟨q1a R PR l K⟩⟩:=(rfl)
@[go_sem ↓] theorem qrf (dst:Option Nat) (f:Nat) (args:List Opd) (l:List AOper) (K:St→Prop) (s:St) :
  q1a R PR (⟨dst,.pcall f,args,none⟩::l) K s =
   @q5H _ (q1N (frz s.heap 6) (args.map s.eval)) ⟨fun ts=>@qg0 PR f ts ⟨fun v=>@q0V (s.put dst v (q0F s.heap (args.map s.eval) v)) ⟨q1a R PR l K⟩⟩⟩:=(rfl)
@[go_sem ↓] theorem qsu (dst:Option Nat) (args:List Opd) (l:List AOper) (K:St→Prop) (s:St) :
  q1a R PR (⟨dst,.callv,args,none⟩::l) K s = @qrA (args.map s.eval) ⟨fun f as=>@qdp R f as s.heap ⟨fun v H'=>@q0V (s.put dst v H') ⟨q1a R PR l K⟩⟩⟩:=(rfl)
@[go_sem ↓] theorem qs2 (dst:Option Nat) (op:AOp) (args:List Opd) (t:Nat) (b:Bool) (l:List AOper) (K:St→Prop) (s:St) :
  q1a R PR (⟨dst,op,args,some (t,b)⟩::l) K s = @q11 (s.wanted (some (t,b))) ⟨q1a R PR (⟨dst,op,args,none⟩::l) K s⟩ ⟨@q0V (s.put dst undef s.heap) ⟨q1a R PR l K⟩⟩:=(rfl)

@[go_sem ↓] theorem qxY (Q:Ex→St→Prop) (s:St):aw R PR .skip Q s=Q .normal s:=(rfl)
@[go_sem ↓] theorem qyz (l:List AOper) (Q:Ex→St→Prop) (s:St):aw R PR (.ops l) Q s=q1a R PR l (Q .normal) s:=(rfl)
@[go_sem ↓] theorem qyM (a b:ACode) (Q:Ex→St→Prop) (s:St):aw R PR (.seq a b) Q s=aw R PR a (q8F (aw R PR b Q) Q) s:=(rfl)
@[go_sem ↓] theorem qyc (x:Opd) (a b:ACode) (Q:Ex→St→Prop) (s:St):aw R PR (.cond x a b) Q s = @q2v (s.eval x) ⟨aw R PR a Q s⟩ ⟨aw R PR b Q s⟩:=(rfl)
@[go_sem ↓] theorem qwO (id:Nat) (b:ACode) (Q:Ex→St→Prop) (s:St):aw R PR (.block id b) Q s=aw R PR b (q5G id Q) s:=(rfl)
@[go_sem ↓] theorem qxr (live:List Nat) (b:ACode) (Q:Ex→St→Prop) (s:St):aw R PR (.loop live b) Q s = @qgH live s ⟨R,PR,b,Q⟩:=(rfl)
@[go_sem ↓] theorem qxl (b:ACode) (Q:Ex→St→Prop) (s:St):aw R PR (.scope b) Q s=aw R PR b Q s:=(rfl)
@[go_sem ↓] theorem qnB (id:Nat) (Q:Ex→St→Prop) (s:St):q5G id Q .normal s=Q .normal s:=(rfl)
@[go_sem ↓] theorem qsM (id:Nat) (Q:Ex→St→Prop) (s:St):q5G id Q .ret s=Q .ret s:=(rfl)
@[go_sem ↓] theorem qqG (id:Nat) (Q:Ex→St→Prop) (s:St):q5G id Q (.exit id) s=Q .normal s:=by
 unfold q5G Ex.out
 simp only[if_true]
theorem qcn {id i:Nat} (h : ¬ i=id) (Q:Ex→St→Prop) (s:St):q5G id Q (.exit i) s=Q (.exit i) s:=by
 unfold q5G Ex.out
 simp only[h,if_false]
attribute [go_sem] qcn
@[go_sem ↓] theorem qyw (id:Nat) (Q:Ex→St→Prop) (s:St):aw R PR (.exit id) Q s=Q (.exit id) s:=(rfl)
@[go_sem ↓] theorem qyD (Q:Ex→St→Prop) (s:St):aw R PR .ret Q s=Q .ret s:=(rfl)
@[go_sem ↓] theorem qpX (next:St→Prop) (Q:Ex→St→Prop) (s:St):q8F next Q .normal s=next s:=(rfl)
@[go_sem ↓] theorem qrF (next:St→Prop) (Q:Ex→St→Prop) (i:Nat) (s:St):q8F next Q (.exit i) s=Q (.exit i) s:=(rfl)
@[go_sem ↓] theorem qsU (next:St→Prop) (Q:Ex→St→Prop) (s:St):q8F next Q .ret s=Q .ret s:=(rfl)

attribute [go_sem] POp.exec ROp.exec NOp.exec EOp.exec qog qnD q9G qwU qwC qwB qwL qr7 qaY xUn qpI q9f qwz qhY qcr qcR qha qcw qhn qdi qnR qpv qwS qyo xMM qt0 qhj
 qrX qmy qmZ q9p qxI qkT q36 q4e part q3G q9y qdf q9E q9q q96 q93 qzc q7h qfo undef AV.cells
 qm9 Heap.load q7k q8W qd2 oneCell qfF q5k q5Q qs4 q9L qk6 q55 findKey q53 q9t AV.one AV.solid
 qvH qvD q4f q7H qbW qap qml qhh q3r q6c qp1 qik q6V qly qlx qdR qdm q7S q8Z q5m
 Heap.store q91 q3S setCells qri Heap.strike q1y Heap.elems q3X Heap.append Heap.flatOf q1N St.wanted AV.aged AV.young AV.isPure AV.pureN AV.isPlain AV.plainN q0F q0r q13

attribute [go_sem] Kj Kt VW VX List.getD_nil K2 List.getElem?_cons_succ List.getElem?_nil Kb Kd List.set_cons_zero List.set_cons_succ Ko Ks
 Vr List.replicate_zero Vh List.drop_succ_cons List.take_zero List.take_succ_cons List.take_nil List.drop_nil List.zip_cons_cons List.zip_nil_left List.zip_nil_right Vc VO VQ List.foldl_nil
 if_true if_false ite_true ite_false and_self and_true true_and and_false false_and or_false false_or or_true true_or not_true_eq_false not_false_eq_true ne_eq reduceCtorEq KO Option.map_none VI Option.bind_none
 VJ Kw Vi KD V3 Vq Ke decide_true decide_false eq_self Vv VC beq_self_eq_true

attribute [go_sem] Nat.reduceAdd Nat.reduceSub Nat.reduceMul Nat.reduceDiv Nat.reduceMod Nat.reduceEqDiff Nat.reduceLeDiff Nat.reduceLT Nat.reduceBEq Nat.reducePow Int.reduceAdd Int.reduceSub Int.reduceMul Int.reduceEq Int.reduceLT Int.reduceLE Int.reduceToNat Int.reduceNeg Int.reduceBEq Int.reduceBNe
def qp2 (res:List ResV) (v:AV) (e:Ex) (s:St):Prop:=(e = .normal∨e = .ret)∧∃ u,results res s=some u∧frz s.heap 6 u=some v
theorem qic {res:List ResV} {v:AV} {e:Ex} {s:St} (he:e = .normal∨e = .ret) (h:(results res s).bind (frz s.heap 6)=some v):qp2 res v e s:=by
 cases hr:results res s with
 | none=>rw[hr] at h; cases h
 | some u=>rw[hr] at h; exact ⟨he,u,hr,h⟩
theorem qfk (res:List ResV) (v:AV) (s:St):qp2 res v .ret s=((results res s).bind (frz s.heap 6)=some v):=by
 apply propext
 constructor
 ·rintro ⟨_,u,h1,h2⟩
  rw[h1]; exact h2
 ·exact fun h=>qic (.inr rfl) h
theorem qaC (res:List ResV) (v:AV) (s:St):qp2 res v .normal s=((results res s).bind (frz s.heap 6)=some v):=by
 apply propext
 constructor
 ·rintro ⟨_,u,h1,h2⟩
  rw[h1]; exact h2
 ·exact fun h=>qic (.inl rfl) h
attribute [go_sem] qfk qaC results q9D
@[go_sem] theorem qx3 (H:Heap) (k:Go.IntKind) (n:Int):frz H 1 (.int k n)=some (.int k n):=(rfl)
@[go_sem] theorem qtc (H:Heap) (b:Bool):frz H 1 (.bool b)=some (.bool b):=(rfl)
@[go_sem] theorem qxq (H:Heap) (b:List UInt8):frz H 1 (.str b)=some (.str b):=(rfl)
@[go_sem] theorem qtY (H:Heap)  : frz H 1 .nilp=some .nilp:=(rfl)
@[go_sem] theorem qvw (H:Heap)  : frz H 1 .nilf=some .nilf:=(rfl)
@[go_sem] theorem qtp (H:Heap)  : frz H 1 .nili=some .nili:=(rfl)
@[go_sem] theorem qvY (H:Heap)  : frz H 1 .nilm=some .nilm:=(rfl)
@[go_sem] theorem qxy (H:Heap) (n:Nat) (l:List AV):frz H 1 (.tsl n l)=some (.tsl n l):=(rfl)
@[go_sem] theorem qwq (H:Heap) (cs:List AV) (o:Nat):frz H 1 (.tptr cs o)=some (.tptr cs o):=(rfl)
@[go_sem] theorem qvA (H:Heap) (n:Nat):frz H 1 (.snil n)=some (.tsl n []):=(rfl)
@[go_sem] theorem qxe (H:Heap) (cs:List AV):frz H 1 (.agg cs)=(q1N (frz H 0) cs).map .agg:=(rfl)
@[go_sem] theorem qwJ (H:Heap) (cs:List AV):frz H 1 (.tup cs)=(q1N (frz H 0) cs).map .tup:=(rfl)
@[go_sem] theorem qxE (H:Heap) (f:Nat) (cap:List AV):frz H 1 (.fn f cap)=(q1N (frz H 0) cap).map (.fn f):=(rfl)
@[go_sem] theorem qxf (H:Heap) (n r i off:Nat):frz H 1 (.ptr n r i off) =
  match H[r]? with
  | some (.row n' els _ fl _)=>if n'=n then (match els[i]? with | some e=>if fl then some (.tptr e.cells off) else (q1N (frz H 0) e.cells).map fun cs=>.tptr cs off | none=>none) else none
  | _=>none:=(rfl)
@[go_sem] theorem qui (H:Heap) (n r i len:Nat):frz H 1 (.sref n r i len) =
  match H[r]? with
  | some (.row n' els _ fl _)=>if n'=n∧i+len≤els.length then (if fl then some (.tsl n ((els.drop i).take len)) else (q1N (frz H 0) ((els.drop i).take len)).map (.tsl n)) else none
  | _=>none:=(rfl)
@[go_sem] theorem qxs (H:Heap) (k:Go.IntKind) (n:Int):frz H 2 (.int k n)=some (.int k n):=(rfl)
@[go_sem] theorem qti (H:Heap) (b:Bool):frz H 2 (.bool b)=some (.bool b):=(rfl)
@[go_sem] theorem qxu (H:Heap) (b:List UInt8):frz H 2 (.str b)=some (.str b):=(rfl)
@[go_sem] theorem qwf (H:Heap)  : frz H 2 .nilp=some .nilp:=(rfl)
@[go_sem] theorem qvV (H:Heap)  : frz H 2 .nilf=some .nilf:=(rfl)
@[go_sem] theorem qu0 (H:Heap)  : frz H 2 .nili=some .nili:=(rfl)
@[go_sem] theorem qww (H:Heap)  : frz H 2 .nilm=some .nilm:=(rfl)
@[go_sem] theorem qxn (H:Heap) (n:Nat) (l:List AV):frz H 2 (.tsl n l)=some (.tsl n l):=(rfl)
@[go_sem] theorem quC (H:Heap) (cs:List AV) (o:Nat):frz H 2 (.tptr cs o)=some (.tptr cs o):=(rfl)
@[go_sem] theorem qwt (H:Heap) (n:Nat):frz H 2 (.snil n)=some (.tsl n []):=(rfl)
@[go_sem] theorem qwD (H:Heap) (cs:List AV):frz H 2 (.agg cs)=(q1N (frz H 1) cs).map .agg:=(rfl)
@[go_sem] theorem qwI (H:Heap) (cs:List AV):frz H 2 (.tup cs)=(q1N (frz H 1) cs).map .tup:=(rfl)
@[go_sem] theorem qxR (H:Heap) (f:Nat) (cap:List AV):frz H 2 (.fn f cap)=(q1N (frz H 1) cap).map (.fn f):=(rfl)
@[go_sem] theorem qwK (H:Heap) (n r i off:Nat):frz H 2 (.ptr n r i off) =
  match H[r]? with
  | some (.row n' els _ fl _)=>if n'=n then (match els[i]? with | some e=>if fl then some (.tptr e.cells off) else (q1N (frz H 1) e.cells).map fun cs=>.tptr cs off | none=>none) else none
  | _=>none:=(rfl)
@[go_sem] theorem qty (H:Heap) (n r i len:Nat):frz H 2 (.sref n r i len) =
  match H[r]? with
  | some (.row n' els _ fl _)=>if n'=n∧i+len≤els.length then (if fl then some (.tsl n ((els.drop i).take len)) else (q1N (frz H 1) ((els.drop i).take len)).map (.tsl n)) else none
  | _=>none:=(rfl)
@[go_sem] theorem qwV (H:Heap) (k:Go.IntKind) (n:Int):frz H 3 (.int k n)=some (.int k n):=(rfl)
@[go_sem] theorem qvP (H:Heap) (b:Bool):frz H 3 (.bool b)=some (.bool b):=(rfl)
@[go_sem] theorem qwX (H:Heap) (b:List UInt8):frz H 3 (.str b)=some (.str b):=(rfl)
@[go_sem] theorem quv (H:Heap)  : frz H 3 .nilp=some .nilp:=(rfl)
@[go_sem] theorem qvf (H:Heap)  : frz H 3 .nilf=some .nilf:=(rfl)
@[go_sem] theorem qvM (H:Heap)  : frz H 3 .nili=some .nili:=(rfl)
@[go_sem] theorem qv2 (H:Heap)  : frz H 3 .nilm=some .nilm:=(rfl)
@[go_sem] theorem qx8 (H:Heap) (n:Nat) (l:List AV):frz H 3 (.tsl n l)=some (.tsl n l):=(rfl)
@[go_sem] theorem qu1 (H:Heap) (cs:List AV) (o:Nat):frz H 3 (.tptr cs o)=some (.tptr cs o):=(rfl)
@[go_sem] theorem qw4 (H:Heap) (n:Nat):frz H 3 (.snil n)=some (.tsl n []):=(rfl)
@[go_sem] theorem qwM (H:Heap) (cs:List AV):frz H 3 (.agg cs)=(q1N (frz H 2) cs).map .agg:=(rfl)
@[go_sem] theorem qwP (H:Heap) (cs:List AV):frz H 3 (.tup cs)=(q1N (frz H 2) cs).map .tup:=(rfl)
@[go_sem] theorem qyb (H:Heap) (f:Nat) (cap:List AV):frz H 3 (.fn f cap)=(q1N (frz H 2) cap).map (.fn f):=(rfl)
@[go_sem] theorem qxp (H:Heap) (n r i off:Nat):frz H 3 (.ptr n r i off) =
  match H[r]? with
  | some (.row n' els _ fl _)=>if n'=n then (match els[i]? with | some e=>if fl then some (.tptr e.cells off) else (q1N (frz H 2) e.cells).map fun cs=>.tptr cs off | none=>none) else none
  | _=>none:=(rfl)
@[go_sem] theorem quE (H:Heap) (n r i len:Nat):frz H 3 (.sref n r i len) =
  match H[r]? with
  | some (.row n' els _ fl _)=>if n'=n∧i+len≤els.length then (if fl then some (.tsl n ((els.drop i).take len)) else (q1N (frz H 2) ((els.drop i).take len)).map (.tsl n)) else none
  | _=>none:=(rfl)
@[go_sem] theorem qx4 (H:Heap) (k:Go.IntKind) (n:Int):frz H 4 (.int k n)=some (.int k n):=(rfl)
@[go_sem] theorem qvg (H:Heap) (b:Bool):frz H 4 (.bool b)=some (.bool b):=(rfl)
@[go_sem] theorem qxv (H:Heap) (b:List UInt8):frz H 4 (.str b)=some (.str b):=(rfl)
@[go_sem] theorem qv9 (H:Heap)  : frz H 4 .nilp=some .nilp:=(rfl)
@[go_sem] theorem qug (H:Heap)  : frz H 4 .nilf=some .nilf:=(rfl)
@[go_sem] theorem quz (H:Heap)  : frz H 4 .nili=some .nili:=(rfl)
@[go_sem] theorem quq (H:Heap)  : frz H 4 .nilm=some .nilm:=(rfl)
@[go_sem] theorem qwy (H:Heap) (n:Nat) (l:List AV):frz H 4 (.tsl n l)=some (.tsl n l):=(rfl)
@[go_sem] theorem qwc (H:Heap) (cs:List AV) (o:Nat):frz H 4 (.tptr cs o)=some (.tptr cs o):=(rfl)
@[go_sem] theorem qvG (H:Heap) (n:Nat):frz H 4 (.snil n)=some (.tsl n []):=(rfl)
@[go_sem] theorem qxd (H:Heap) (cs:List AV):frz H 4 (.agg cs)=(q1N (frz H 3) cs).map .agg:=(rfl)
@[go_sem] theorem qxc (H:Heap) (cs:List AV):frz H 4 (.tup cs)=(q1N (frz H 3) cs).map .tup:=(rfl)
@[go_sem] theorem qyt (H:Heap) (f:Nat) (cap:List AV):frz H 4 (.fn f cap)=(q1N (frz H 3) cap).map (.fn f):=(rfl)
@[go_sem] theorem qwN (H:Heap) (n r i off:Nat):frz H 4 (.ptr n r i off) =
  match H[r]? with
  | some (.row n' els _ fl _)=>if n'=n then (match els[i]? with | some e=>if fl then some (.tptr e.cells off) else (q1N (frz H 3) e.cells).map fun cs=>.tptr cs off | none=>none) else none
  | _=>none:=(rfl)
@[go_sem] theorem quJ (H:Heap) (n r i len:Nat):frz H 4 (.sref n r i len) =
  match H[r]? with
  | some (.row n' els _ fl _)=>if n'=n∧i+len≤els.length then (if fl then some (.tsl n ((els.drop i).take len)) else (q1N (frz H 3) ((els.drop i).take len)).map (.tsl n)) else none
  | _=>none:=(rfl)
@[go_sem] theorem qx6 (H:Heap) (k:Go.IntKind) (n:Int):frz H 5 (.int k n)=some (.int k n):=(rfl)
@[go_sem] theorem qvs (H:Heap) (b:Bool):frz H 5 (.bool b)=some (.bool b):=(rfl)
@[go_sem] theorem qxw (H:Heap) (b:List UInt8):frz H 5 (.str b)=some (.str b):=(rfl)
@[go_sem] theorem qvJ (H:Heap)  : frz H 5 .nilp=some .nilp:=(rfl)
@[go_sem] theorem qvc (H:Heap)  : frz H 5 .nilf=some .nilf:=(rfl)
@[go_sem] theorem qta (H:Heap)  : frz H 5 .nili=some .nili:=(rfl)
@[go_sem] theorem qtv (H:Heap)  : frz H 5 .nilm=some .nilm:=(rfl)
@[go_sem] theorem qxo (H:Heap) (n:Nat) (l:List AV):frz H 5 (.tsl n l)=some (.tsl n l):=(rfl)
@[go_sem] theorem qtX (H:Heap) (cs:List AV) (o:Nat):frz H 5 (.tptr cs o)=some (.tptr cs o):=(rfl)
@[go_sem] theorem quV (H:Heap) (n:Nat):frz H 5 (.snil n)=some (.tsl n []):=(rfl)
@[go_sem] theorem qwQ (H:Heap) (cs:List AV):frz H 5 (.agg cs)=(q1N (frz H 4) cs).map .agg:=(rfl)
@[go_sem] theorem qxz (H:Heap) (cs:List AV):frz H 5 (.tup cs)=(q1N (frz H 4) cs).map .tup:=(rfl)
@[go_sem] theorem qxF (H:Heap) (f:Nat) (cap:List AV):frz H 5 (.fn f cap)=(q1N (frz H 4) cap).map (.fn f):=(rfl)
@[go_sem] theorem qwF (H:Heap) (n r i off:Nat):frz H 5 (.ptr n r i off) =
  match H[r]? with
  | some (.row n' els _ fl _)=>if n'=n then (match els[i]? with | some e=>if fl then some (.tptr e.cells off) else (q1N (frz H 4) e.cells).map fun cs=>.tptr cs off | none=>none) else none
  | _=>none:=(rfl)
@[go_sem] theorem qtl (H:Heap) (n r i len:Nat):frz H 5 (.sref n r i len) =
  match H[r]? with
  | some (.row n' els _ fl _)=>if n'=n∧i+len≤els.length then (if fl then some (.tsl n ((els.drop i).take len)) else (q1N (frz H 4) ((els.drop i).take len)).map (.tsl n)) else none
  | _=>none:=(rfl)
@[go_sem] theorem qxa (H:Heap) (k:Go.IntKind) (n:Int):frz H 6 (.int k n)=some (.int k n):=(rfl)
@[go_sem] theorem quL (H:Heap) (b:Bool):frz H 6 (.bool b)=some (.bool b):=(rfl)
@[go_sem] theorem qx9 (H:Heap) (b:List UInt8):frz H 6 (.str b)=some (.str b):=(rfl)
@[go_sem] theorem qtB (H:Heap)  : frz H 6 .nilp=some .nilp:=(rfl)
@[go_sem] theorem qtW (H:Heap)  : frz H 6 .nilf=some .nilf:=(rfl)
@[go_sem] theorem quR (H:Heap)  : frz H 6 .nili=some .nili:=(rfl)
@[go_sem] theorem qv6 (H:Heap)  : frz H 6 .nilm=some .nilm:=(rfl)
@[go_sem] theorem qwZ (H:Heap) (n:Nat) (l:List AV):frz H 6 (.tsl n l)=some (.tsl n l):=(rfl)
@[go_sem] theorem quS (H:Heap) (cs:List AV) (o:Nat):frz H 6 (.tptr cs o)=some (.tptr cs o):=(rfl)
@[go_sem] theorem qvI (H:Heap) (n:Nat):frz H 6 (.snil n)=some (.tsl n []):=(rfl)
@[go_sem] theorem qx5 (H:Heap) (cs:List AV):frz H 6 (.agg cs)=(q1N (frz H 5) cs).map .agg:=(rfl)
@[go_sem] theorem qwW (H:Heap) (cs:List AV):frz H 6 (.tup cs)=(q1N (frz H 5) cs).map .tup:=(rfl)
@[go_sem] theorem qxD (H:Heap) (f:Nat) (cap:List AV):frz H 6 (.fn f cap)=(q1N (frz H 5) cap).map (.fn f):=(rfl)
@[go_sem] theorem qx0 (H:Heap) (n r i off:Nat):frz H 6 (.ptr n r i off) =
  match H[r]? with
  | some (.row n' els _ fl _)=>if n'=n then (match els[i]? with | some e=>if fl then some (.tptr e.cells off) else (q1N (frz H 5) e.cells).map fun cs=>.tptr cs off | none=>none) else none
  | _=>none:=(rfl)
@[go_sem] theorem qur (H:Heap) (n r i len:Nat):frz H 6 (.sref n r i len) =
  match H[r]? with
  | some (.row n' els _ fl _)=>if n'=n∧i+len≤els.length then (if fl then some (.tsl n ((els.drop i).take len)) else (q1N (frz H 5) ((els.drop i).take len)).map (.tsl n)) else none
  | _=>none:=(rfl)
end
section
variable {C:Ctx}
theorem q04 {f:Nat} (fn:AFn) {ts:List AV} {v:AV} (hf:C.code f=some fn) (h : @q0V (enter fn ts []) ⟨aw (q1K C) (q0e C) fn.body (qp2 fn.res v)⟩):q0e C f ts v:=qjH hf h
end
section
variable {R:Nat→List AV→Heap→AV→Heap→Prop} {PR:Nat→List AV→AV→Prop}
theorem q06 {α:Type} {live:List Nat} {b:ACode} {Q:Ex→St→Prop} {s:St} (st:α→St) (Inv:α→Prop) (μ:α→Nat) (a0:α) (h0:s.norm live=st a0) (hi:Inv a0)
  (round : ∀ a,Inv a→aw R PR b (q8F (fun t=>∃ a',t.norm live=st a'∧Inv a'∧μ a'<μ a) Q) (st a)) (hz:q9T live=[]:=by rfl) : @qgH live s ⟨R,PR,b,Q⟩:=by
 refine qsF st Inv μ a0 (by rw[qdv hz]; exact h0) hi ?_
 simp only[qdv hz]
 exact round
theorem q00 {f:Nat} {ts:List AV} {k:AV→Prop} (v:AV) (h:PR f ts v) (hk:k v) : @qg0 PR f ts ⟨k⟩:=⟨v,h,hk⟩
theorem q0l {f:Nat} {args:List AV} {H:Heap} {k:AV→Heap→Prop} (v:AV) (H':Heap) (h:R f args H v H') (hk:k v H') : @qdp R f args H ⟨k⟩:=⟨v,H',h,hk⟩
end
end Ago


namespace Ago
open Go (IntKind)

theorem w64 {n:Int} (h1 : -9223372036854775808≤n) (h2:n<9223372036854775808):IntKind.wrap .i64 n=n:=by
 simp [IntKind.wrap,IntKind.bits,IntKind.signed]
 split<;>omega
theorem qz3 (c:UInt8):IntKind.wrap .i64 (c.toNat:Int)=c.toNat:=by
 have:=c.toNat_lt
 exact w64 (by omega) (by omega)
theorem w8 {n:Int} (h1:0≤n) (h2:n<256):IntKind.wrap .u8 n=n:=by
 simp [IntKind.wrap,IntKind.bits,IntKind.signed]
 omega

theorem dT {a b:Int} (h:a<b):decide (a<b)=true:=by simp [h]
theorem dF {a b:Int} (h:b≤a):decide (a<b)=false:=by simp; omega
theorem dlT {a b:Int} (h:a≤b):decide (a≤b)=true:=by simp [h]
theorem dlF {a b:Int} (h:b<a):decide (a≤b)=false:=by simp; omega
theorem qz2 {a b:Int} (h:a=b):(a == b)=true:=by simp [h]
theorem qz7 {a b:Int} (h : ¬ a=b):(a == b)=false:=by simp [h]
theorem qz8 {a b:Int} (h : ¬ a=b):(a != b)=true:=by simp [h]
theorem qz5 {a b:Int} (h:a=b):(a != b)=false:=by simp [h]
theorem leT {a b:Int} (h:a≤b):(a≤b)=True:=by simp [h]
theorem ltT {a b:Int} (h:a<b):(a<b)=True:=by simp [h]
theorem qzb {a b:Nat} (h:a≤b):(a≤b)=True:=by simp [h]

@[go_sem] theorem qsW (s:St) (t:Nat) (b:Bool) (h:s.tmps[t]?=some (.tup [])):s.wanted (some (t,b))=some false:=by simp [St.wanted,h]

def q0h (n:Nat) (l:List (Nat × AV)):List AV:=l.foldl (fun s x=>s.set x.1 x.2) (List.replicate n .dead)
end Ago
namespace Ago
section
variable {p:Prop} [Decidable p] {A B:Prop} {a b:Int} {c:Bool}
theorem qlm (h1 : ¬ p→A) (h2:p→B) : @q11 (some (decide p == false)) ⟨A⟩ ⟨B⟩:=by
 by_cases h:p
 ·simpa [q11,q2O,h] using h2 h
 ·simpa [q11,q2O,h] using h1 h
theorem qmB (h1:p→A) (h2 : ¬ p→B) : @q11 (some (decide p == true)) ⟨A⟩ ⟨B⟩:=by
 by_cases h:p
 ·simpa [q11,q2O,h] using h1 h
 ·simpa [q11,q2O,h] using h2 h
theorem q83:(a == b)=decide (a=b):=by by_cases h:a=b<;>simp [h]
theorem qa4:(a != b)=decide (¬ a=b):=by by_cases h:a=b<;>simp [h]
theorem qvq (h1 : ¬ a=b→A) (h2:a=b→B) : @q11 (some ((a == b) == false)) ⟨A⟩ ⟨B⟩:=by
 rw[q83]
 exact qlm h1 h2
theorem qud (h1:a=b→A) (h2 : ¬ a=b→B) : @q11 (some ((a == b) == true)) ⟨A⟩ ⟨B⟩:=by
 rw[q83]
 exact qmB h1 h2
theorem qtg (h1:a=b→A) (h2 : ¬ a=b→B) : @q11 (some ((a != b) == false)) ⟨A⟩ ⟨B⟩:=by
 rw[qa4]
 exact qlm (fun h=>h1 (Classical.not_not.1 h)) h2
theorem qvb (h1 : ¬ a=b→A) (h2:a=b→B) : @q11 (some ((a != b) == true)) ⟨A⟩ ⟨B⟩:=by
 rw[qa4]
 exact qmB h1 (fun h=>h2 (Classical.not_not.1 h))
theorem qv8 (h1:c=false→A) (h2:c=true→B) : @q11 (some (c == false)) ⟨A⟩ ⟨B⟩:=by
 cases c
 ·exact h1 rfl
 ·exact h2 rfl
theorem quZ (h1:c=true→A) (h2:c=false→B) : @q11 (some (c == true)) ⟨A⟩ ⟨B⟩:=by
 cases c
 ·exact h2 rfl
 ·exact h1 rfl
theorem qrd (h1:p→A) (h2 : ¬ p→B) : @q2v (.bool (decide p)) ⟨A⟩ ⟨B⟩:=by
 by_cases h:p
 ·simpa [q2v,q7j,h] using h1 h
 ·simpa [q2v,q7j,h] using h2 h
theorem qyx (h1:a=b→A) (h2 : ¬ a=b→B) : @q2v (.bool (a == b)) ⟨A⟩ ⟨B⟩:=by
 rw[q83]
 exact qrd h1 h2
theorem qy9 (h1 : ¬ a=b→A) (h2:a=b→B) : @q2v (.bool (a != b)) ⟨A⟩ ⟨B⟩:=by
 rw[qa4]
 exact qrd h1 (fun h=>h2 (Classical.not_not.1 h))
theorem qyr (h1:c=true→A) (h2:c=false→B) : @q2v (.bool c) ⟨A⟩ ⟨B⟩:=by
 cases c
 ·exact h2 rfl
 ·exact h1 rfl
theorem qwk (h1:c=false→A) (h2:c=true→B) : @q2v (.bool (!c)) ⟨A⟩ ⟨B⟩:=by
 cases c
 ·exact h1 rfl
 ·exact h2 rfl
theorem qsh (h1:c=true→A) (h2:c=false→B) : @q11 (some ((!c) == false)) ⟨A⟩ ⟨B⟩:=by
 cases c
 ·exact h2 rfl
 ·exact h1 rfl
theorem qsB (h1:c=false→A) (h2:c=true→B) : @q11 (some ((!c) == true)) ⟨A⟩ ⟨B⟩:=by
 cases c
 ·exact h1 rfl
 ·exact h2 rfl
end
end Ago
namespace Ago
@[go_sem] theorem bTT:(true == true)=true:=(rfl)
@[go_sem] theorem bTF:(true == false)=false:=(rfl)
@[go_sem] theorem bFT:(false == true)=false:=(rfl)
@[go_sem] theorem bFF:(false == false)=true:=(rfl)
end Ago
namespace Ago
def qiu (res:List ResV) (k:AV→Prop) (e:Ex) (s:St):Prop:=(e = .normal∨e = .ret)∧q3k ((results res s).bind (frz s.heap 6)) k
@[go_sem] theorem qvo (res:List ResV) (k:AV→Prop) (s:St):qiu res k .ret s=q3k ((results res s).bind (frz s.heap 6)) k:=by simp [qiu]
@[go_sem] theorem qqM (res:List ResV) (k:AV→Prop) (s:St):qiu res k .normal s=q3k ((results res s).bind (frz s.heap 6)) k:=by simp [qiu]
@[go_sem] theorem qrb {α:Type} (v:α) (k:α→Prop):q3k (some v) k=k v:=(rfl)
theorem q4y {C:Ctx} {f:Nat} (fn:AFn) {ts:List AV} {k:AV→Prop} (hf:C.code f=some fn) (h : @q0V (enter fn ts []) ⟨aw (q1K C) (q0e C) fn.body (qiu fn.res k)⟩) : ∃ v,q0e C f ts v∧k v:=by
 obtain ⟨e,s,h1,he,h2⟩:=q2E fn.body (qiu fn.res k) _ h
 obtain ⟨v,h3,h4⟩:=q1m h2
 obtain ⟨u,h5,h6⟩:=VL.1 h3
 exact ⟨v,.prun hf h1 he h5 h6,h4⟩
theorem quf:lim=2147483648:=(rfl)
theorem qxX:((0:Nat):Int)=0:=(rfl)
theorem qyu:((1:Nat):Int)=1:=(rfl)
attribute [go_sem] q0h List.flatMap_cons List.flatMap_nil KW qz3 quf Int.reducePow qxX qyu Int.cast_ofNat_Int w64 w8 dT dF dlT dlF qz2 qz7 qz8 qz5 leT ltT qzb VM

def q6F (code:Nat→Option AFn) (clR clP:Nat→Option (Nat × Nat)):Ctx where
 code:=code
 prim f args H v H':=∃ p x,clR f=some p∧args=[x]∧q3r p.1 p.2 (H++[.gone]) [.snil p.1,x]=some (v,H')
 pprim f ts v:=∃ p l,clP f=some p∧ts=[.tsl p.1 l]∧l.length≤lim∧l.length * p.2≤2^40∧v = .tsl p.1 l
theorem qqz {code:Nat→Option AFn} {clR clP:Nat→Option (Nat × Nat)} {f n b:Nat} (h:clP f=some (n,b)) (l:List AV) (h1:l.length≤lim) (h2:l.length * b≤2^40):q0e (q6F code clR clP) f [.tsl n l] (.tsl n l):=
 .pprim ⟨(n,b),l,h,rfl,h1,h2,rfl⟩
attribute [irreducible] q5H q2v q11 qrx qrA q0V qdp qg0 qgH
end Ago
namespace Ago
abbrev Za (d i:Nat):AOper:=⟨some d,.pure .move,[.t i],none⟩
abbrev Zb (d i t:Nat) (b:Bool):AOper:=⟨some d,.pure .move,[.t i],some (t,b)⟩
abbrev Zc (d:Nat) (c:AV):AOper:=⟨some d,.pure .move,[.c c],none⟩
abbrev Zd (d i:Nat):AOper:=⟨some d,.read (.load none),[.t i],none⟩
abbrev Ze (d i t:Nat) (b:Bool):AOper:=⟨some d,.read (.load none),[.t i],some (t,b)⟩
abbrev Zf (d i n:Nat):AOper:=⟨some d,.read (.load (some n)),[.t i],none⟩
abbrev Zg (d i n t:Nat) (b:Bool):AOper:=⟨some d,.read (.load (some n)),[.t i],some (t,b)⟩
abbrev Zh (d i n:Nat):AOper:=⟨some d,.pure (.faddr n),[.t i],none⟩
abbrev Zi (d i n t:Nat) (b:Bool):AOper:=⟨some d,.pure (.faddr n),[.t i],some (t,b)⟩
abbrev Zj (d i j n:Nat):AOper:=⟨some d,.pure (.iaddrS n),[.t i,.t j],none⟩
abbrev Zk (d i j n t:Nat) (b:Bool):AOper:=⟨some d,.pure (.iaddrS n),[.t i,.t j],some (t,b)⟩
abbrev Zl (d i j:Nat) (o:Go.BinOp):AOper:=⟨some d,.pure (.bin o),[.t i,.t j],none⟩
abbrev Zm (d i j:Nat) (o:Go.BinOp) (t:Nat) (b:Bool):AOper:=⟨some d,.pure (.bin o),[.t i,.t j],some (t,b)⟩
abbrev Zn (d i:Nat) (c:Int) (o:Go.BinOp):AOper:=⟨some d,.pure (.bin o),[.t i,.c (.int .i64 c)],none⟩
abbrev Zo (d i:Nat) (c:Int) (o:Go.BinOp) (t:Nat) (b:Bool):AOper:=⟨some d,.pure (.bin o),[.t i,.c (.int .i64 c)],some (t,b)⟩
abbrev Zp (d i:Nat):AOper:=⟨some d,.pure .lenL,[.t i],none⟩
abbrev Zq (d i t:Nat) (b:Bool):AOper:=⟨some d,.pure .lenL,[.t i],some (t,b)⟩
abbrev Zr (d i:Nat):AOper:=⟨some d,.pure (.un .not),[.t i],none⟩
abbrev Zs (d i t:Nat) (b:Bool):AOper:=⟨some d,.pure (.un .not),[.t i],some (t,b)⟩
abbrev Zu (i j n:Nat):AOper:=⟨none,.eff (.store n),[.t i,.t j],none⟩
abbrev Zv (d i j:Nat) (c:Bool):AOper:=⟨some d,.pure .pick,[.t i,.t j,.c (.bool c)],none⟩
abbrev Zw (d i j:Nat) (c:Bool):AOper:=⟨some d,.pure .pick,[.t i,.c (.bool c),.t j],none⟩
abbrev Zx (d i n:Nat):AOper:=⟨some d,.new (.box n),[.t i],none⟩
abbrev Zy (d f i:Nat):AOper:=⟨some d,.pcall f,[.t i],none⟩
abbrev Zz (d f i j:Nat):AOper:=⟨some d,.pcall f,[.t i,.t j],none⟩
abbrev ZB (d f i t:Nat) (b:Bool):AOper:=⟨some d,.pcall f,[.t i],some (t,b)⟩
abbrev ZC (d f i j t:Nat) (b:Bool):AOper:=⟨some d,.pcall f,[.t i,.t j],some (t,b)⟩
end Ago
namespace Ago
section
variable {R:Nat→List AV→Heap→AV→Heap→Prop} {PR:Nat→List AV→AV→Prop}

theorem q1k : ∀ (l:List AOper) (K:St→Prop) (s:St),q1a R PR l K s→∃ s',q1a R PR l (fun t=>t=s') s∧K s'
 | [],K,s,h=>⟨s,rfl,h⟩
 | ⟨dst,op,args,g⟩::l,K,s,h=>by
  unfold q1a at h
  rcases q9x h with ⟨hw,h⟩ | ⟨hw,h⟩
  ·cases op with
   | pure p=>
    obtain ⟨v,hv,h⟩:=q1m h
    obtain ⟨s',h1,h2⟩:=q1k l K _ h
    refine ⟨s',?_,h2⟩
    unfold q1a
    simp only[hw,q2O,hv,q3k]
    exact h1
   | read p=>
    obtain ⟨v,hv,h⟩:=q1m h
    obtain ⟨s',h1,h2⟩:=q1k l K _ h
    refine ⟨s',?_,h2⟩
    unfold q1a
    simp only[hw,q2O,hv,q3k]
    exact h1
   | new p=>
    obtain ⟨v,hv,h⟩:=q1m h
    obtain ⟨s',h1,h2⟩:=q1k l K _ h
    refine ⟨s',?_,h2⟩
    unfold q1a
    simp only[hw,q2O,hv,q3k]
    exact h1
   | newAt j p=>
    obtain ⟨v,hv,hf,h⟩:=qdA h
    obtain ⟨s',h1,h2⟩:=q1k l K _ h
    refine ⟨s',?_,h2⟩
    unfold q1a
    simp only[hw,q2O,hv,hf,qqC]
    exact h1
   | eff p=>
    obtain ⟨v,hv,h⟩:=q1m h
    obtain ⟨s',h1,h2⟩:=q1k l K _ h
    refine ⟨s',?_,h2⟩
    unfold q1a
    simp only[hw,q2O,hv,q3k]
    exact h1
   | call f=>
    obtain ⟨v,H',hr,h⟩:=h
    obtain ⟨s',h1,h2⟩:=q1k l K _ h
    refine ⟨s',?_,h2⟩
    unfold q1a
    simp only[hw,q2O]
    exact ⟨v,H',hr,h1⟩
   | pcall f=>
    obtain ⟨ts,ha,v,hr,h⟩:=q1m h
    obtain ⟨s',h1,h2⟩:=q1k l K _ h
    refine ⟨s',?_,h2⟩
    unfold q1a
    simp only[hw,q2O,ha,q3k]
    exact ⟨v,hr,h1⟩
   | callv=>
    obtain ⟨f,cap,as,ha,v,H',hr,h⟩:=qdI h
    obtain ⟨s',h1,h2⟩:=q1k l K _ h
    refine ⟨s',?_,h2⟩
    unfold q1a
    simp only[hw,q2O,ha,qqQ]
    exact ⟨v,H',hr,h1⟩
   | bad=>exact h.elim
  ·obtain ⟨s',h1,h2⟩:=q1k l K _ h
   refine ⟨s',?_,h2⟩
   unfold q1a
   simp only[hw,q2O]
   exact h1

@[go_sem ↓] theorem qxj (k:Nat) (l:List AOper) (Q:Ex→St→Prop) (s:St):aw R PR (.draw k [l]) Q s = @q0V (s.keep k) ⟨q1a R PR l fun t=>Q .normal { t with rb:=0 }⟩:=by
 apply propext
 unfold q0V
 constructor
 ·rintro ⟨s',_,h1,h2⟩
  exact q1F (fun t ht=>by rw[ht]; exact h2) l _ (h1 l (by simp))
 ·intro h
  obtain ⟨s',h1,h2⟩:=q1k l _ _ h
  exact ⟨s',by simp,fun l' hl'=>by rw[KM.1 hl']; exact h1,h2⟩

@[go_sem] theorem q3B (tm:List AV) (h:Heap) (b rb k:Nat):St.keep ⟨tm,h,b,rb⟩ k=⟨tm,h++List.replicate k .resv,b,h.length⟩:=(rfl)
end
end Ago
namespace Ago
theorem qbG {C C':Ctx} (h1 : ∀ f fn,C.code f=some fn→C'.code f=some fn) (h2 : ∀ f a H v H',C.prim f a H v H'→C'.prim f a H v H') (h3 : ∀ f t v,C.pprim f t v→C'.pprim f t v) {j:J} (h:BS C j):BS C' j:=by
 induction h with
 | prim h=>exact .prim (h2 _ _ _ _ _ h)
 | pprim h=>exact .pprim (h3 _ _ _ h)
 | nil s=>exact .nil s
 | pass hw _ ih=>exact .pass hw ih
 | pure hw ho hv _ ih=>exact .pure hw ho hv ih
 | read hw ho hv _ ih=>exact .read hw ho hv ih
 | new hw ho hv _ ih=>exact .new hw ho hv ih
 | newAt hw ho hv hf _ ih=>exact .newAt hw ho hv hf ih
 | eff hw ho hv _ ih=>exact .eff hw ho hv ih
 | call hw ho _ _ ihv ih=>exact .call hw ho ihv ih
 | pcall hw ho ha _ _ ihr ih=>exact .pcall hw ho ha ihr ih
 | callv hw ho ha _ _ ihv ih=>exact .callv hw ho ha ihv ih
 | skip s=>exact .skip s
 | ops _ ih=>exact .ops ih
 | draw hne _ ih=>exact .draw hne ih
 | seq _ _ ih1 ih2=>exact .seq ih1 ih2
 | seqE _ he ih=>exact .seqE ih he
 | condT hx _ ih=>exact .condT hx ih
 | condF hx _ ih=>exact .condF hx ih
 | block _ ih=>exact .block ih
 | scope _ ih=>exact .scope ih
 | loop _ _ ih1 ih2=>exact .loop ih1 ih2
 | loopE _ he ih=>exact .loopE ih he
 | exit id s=>exact .exit id s
 | ret s=>exact .ret s
 | run hf _ he hr ih=>exact .run (by rw[h1]; exact hf) ih he hr
 | prun hf _ he hr hv ih=>exact .prun (by rw[h1]; exact hf) ih he hr hv
end Ago
namespace Ago
def ACode.live:ACode→List (List Nat)→ACode × List (List Nat)
 | .seq a b,L=>(.seq (live a L).1 (live b (live a L).2).1,(live b (live a L).2).2)
 | .cond x a b,L=>(.cond x (live a L).1 (live b (live a L).2).1,(live b (live a L).2).2)
 | .block i b,L=>(.block i (live b L).1,(live b L).2)
 | .scope b,L=>(.scope (live b L).1,(live b L).2)
 | .loop _ b,L=>(.loop (L.headD []) (live b L.tail).1,(live b L.tail).2)
 | c,L=>(c,L)
def qwg (l:List (Nat × Nat)) (g:Go.FuncId):Option Nat:=(l.find? fun p=>p.1 == g).map (·.2)
noncomputable def qhb (P:Go.Program) (l:List (Nat × Nat)) (q:Nat→Bool) (L:List (List Nat)) (g:Go.Func):Option AFn:=(qbu P (qwg l) q g).map fun f=>{ f with body:=(ACode.live f.body L).1 }
def sub:List Nat→Go.Code→Go.Code
 | 0::l,.seq a _=>sub l a
 | 1::l,.seq _ b=>sub l b
 | 0::l,.cond _ a _=>sub l a
 | 1::l,.cond _ _ b=>sub l b
 | 0::l,.block _ a=>sub l a
 | 0::l,.scope a=>sub l a
 | 0::l,.loop a=>sub l a
 | _,c=>c
def q0t (g:Go.Func):Go.Code:=match g.body with
 | some c=>c
 | none=>.skip
noncomputable def qqV (P:Go.Program) (l:List (Nat × Nat)) (q:Nat→Bool) (L:List (List Nat)) (c:Go.Code):Option ACode:=(comp P (qwg l) q c).map fun a=>(ACode.live a L).1
end Ago

namespace Ago
class Spl (p:Prop) (a b:outParam Prop):Prop where
 go:a→b→p
theorem spl {p a b:Prop} [s:Spl p a b] (h1:a) (h2:b):p:=s.go h1 h2
section
variable {p:Prop} [Decidable p] {A B:Prop} {a b:Int} {c:Bool}
instance:Spl (@q2v (.bool c) ⟨A⟩ ⟨B⟩) (c=true→A) (c=false→B):=⟨qyr⟩
instance:Spl (@q2v (.bool (!c)) ⟨A⟩ ⟨B⟩) (c=false→A) (c=true→B):=⟨qwk⟩
instance:Spl (@q2v (.bool (a != b)) ⟨A⟩ ⟨B⟩) (¬ a=b→A) (a=b→B):=⟨qy9⟩
instance:Spl (@q2v (.bool (a == b)) ⟨A⟩ ⟨B⟩) (a=b→A) (¬ a=b→B):=⟨qyx⟩
instance:Spl (@q2v (.bool (decide p)) ⟨A⟩ ⟨B⟩) (p→A) (¬ p→B):=⟨qrd⟩
instance:Spl (@q11 (some (c == true)) ⟨A⟩ ⟨B⟩) (c=true→A) (c=false→B):=⟨quZ⟩
instance:Spl (@q11 (some (c == false)) ⟨A⟩ ⟨B⟩) (c=false→A) (c=true→B):=⟨qv8⟩
instance:Spl (@q11 (some ((!c) == true)) ⟨A⟩ ⟨B⟩) (c=false→A) (c=true→B):=⟨qsB⟩
instance:Spl (@q11 (some ((!c) == false)) ⟨A⟩ ⟨B⟩) (c=true→A) (c=false→B):=⟨qsh⟩
instance:Spl (@q11 (some ((a != b) == true)) ⟨A⟩ ⟨B⟩) (¬ a=b→A) (a=b→B):=⟨qvb⟩
instance:Spl (@q11 (some ((a != b) == false)) ⟨A⟩ ⟨B⟩) (a=b→A) (¬ a=b→B):=⟨qtg⟩
instance:Spl (@q11 (some ((a == b) == true)) ⟨A⟩ ⟨B⟩) (a=b→A) (¬ a=b→B):=⟨qud⟩
instance:Spl (@q11 (some ((a == b) == false)) ⟨A⟩ ⟨B⟩) (¬ a=b→A) (a=b→B):=⟨qvq⟩
instance:Spl (@q11 (some (decide p == true)) ⟨A⟩ ⟨B⟩) (p→A) (¬ p→B):=⟨qmB⟩
instance:Spl (@q11 (some (decide p == false)) ⟨A⟩ ⟨B⟩) (¬ p→A) (p→B):=⟨qlm⟩
end
end Ago
