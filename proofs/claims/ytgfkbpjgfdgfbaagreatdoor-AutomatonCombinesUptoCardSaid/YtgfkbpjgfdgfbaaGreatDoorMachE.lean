/- The abstract machine computed by simp: the transformer's equations, one an operation, the continuation behind a word that simp does not enter. -/
import Derived.Test.YtgfkbpjgfdgfbaaGreatDoorMachA
import Derived.Attr
set_option linter.unusedSimpArgs false
set_option linter.unusedVariables false
namespace Ago
section
variable {R:Nat→List AV→Heap→AV→Heap→Prop} {PR:Nat→List AV→AV→Prop}

/-- What comes behind, in a place that simp does not enter. -/
class KF (α:Type) where
  k:α→Prop
class KP where
  p:Prop
class KC where
  k:AV→Heap→Prop
class KN where
  k:Nat→List AV→Prop
class KL where
  R:Nat→List AV→Heap→AV→Heap→Prop
  PR:Nat→List AV→AV→Prop
  b:ACode
  Q:Ex→St→Prop

def onSomeI {α:Type} (x:Option α) [c:KF α]:Prop:=onSome x c.k
def onBoolI (x:AV) [a:KP] [b:KP]:Prop:=onBool x a.p b.p
def onWantI (x:Option Bool) [a:KP] [b:KP]:Prop:=onWant x a.p b.p
def onAtI (x:Option (AV × Blk)) (y:Option Blk) [c:KF (AV × Blk)]:Prop:=onAt x y c.k
def onFnI (l:List AV) [c:KN]:Prop:=onFn l c.k
def withStI (s:St) [c:KF St]:Prop:=c.k s
def awCallI (R:Nat→List AV→Heap→AV→Heap→Prop) (f:Nat) (args:List AV) (H:Heap) [c:KC]:Prop:=awCall R f args H c.k
def awPureI (PR:Nat→List AV→AV→Prop) (f:Nat) (ts:List AV) [c:KF AV]:Prop:=awPure PR f ts c.k
def awLoopI (live:List Nat) (s:St) [c:KL]:Prop:=aw c.R c.PR (.loop live c.b) c.Q s

@[go_sem] theorem onSomeI_some {α:Type} (v:α) (c:KF α) : @onSomeI α (some v) c=c.k v:=(rfl)
@[go_sem] theorem onSomeI_none {α:Type} (c:KF α) : @onSomeI α none c=False:=(rfl)
@[go_sem] theorem onBoolI_true (a b:KP) : @onBoolI (.bool true) a b=a.p:=(rfl)
@[go_sem] theorem onBoolI_false (a b:KP) : @onBoolI (.bool false) a b=b.p:=(rfl)
@[go_sem] theorem onWantI_true (a b:KP) : @onWantI (some true) a b=a.p:=(rfl)
@[go_sem] theorem onWantI_false (a b:KP) : @onWantI (some false) a b=b.p:=(rfl)
@[go_sem] theorem onAtI_some (v:AV × Blk) (c:KF (AV × Blk)) : @onAtI (some v) (some .resv) c=c.k v:=(rfl)
@[go_sem] theorem onFnI_fn (f:Nat) (cap args:List AV) (c:KN) : @onFnI (.fn f cap::args) c=c.k f (args++cap):=(rfl)
@[go_sem] theorem withStI_mk (tm:List AV) (h:Heap) (b rb:Nat) (c:KF St) : @withStI ⟨tm, h, b, rb⟩ c=c.k ⟨tm, h, b, rb⟩:=(rfl)

@[go_sem] theorem put_some (tm:List AV) (h H:Heap) (b rb d:Nat) (v:AV):St.put ⟨tm, h, b, rb⟩ (some d) v H=⟨tm.set d v, H, b, rb⟩:=(rfl)
@[go_sem] theorem put_none (tm:List AV) (h H:Heap) (b rb:Nat) (v:AV):St.put ⟨tm, h, b, rb⟩ none v H=⟨tm, H, b, rb⟩:=(rfl)
@[go_sem] theorem eval_t (tm:List AV) (h:Heap) (b rb i:Nat):St.eval ⟨tm, h, b, rb⟩ (.t i)=tm.getD i undef:=(rfl)
@[go_sem] theorem eval_c (s:St) (v:AV):s.eval (.c v)=v:=(rfl)

@[go_sem ↓] theorem awOps_nil (K:St→Prop) (s:St):awOps R PR [] K s=K s:=(rfl)
@[go_sem ↓] theorem awOps_pure (dst:Option Nat) (p:POp) (args:List Opd) (l:List AOper) (K:St→Prop) (s:St) :
    awOps R PR (⟨dst, .pure p, args, none⟩::l) K s = @onSomeI _ (p.exec (args.map s.eval)) ⟨fun v=>@withStI (s.put dst v s.heap) ⟨awOps R PR l K⟩⟩:=(rfl)
@[go_sem ↓] theorem awOps_read (dst:Option Nat) (p:ROp) (args:List Opd) (l:List AOper) (K:St→Prop) (s:St) :
    awOps R PR (⟨dst, .read p, args, none⟩::l) K s = @onSomeI _ (p.exec (args.map s.eval) s.heap) ⟨fun v=>@withStI (s.put dst v s.heap) ⟨awOps R PR l K⟩⟩:=(rfl)
@[go_sem ↓] theorem awOps_new (dst:Option Nat) (p:NOp) (args:List Opd) (l:List AOper) (K:St→Prop) (s:St) :
    awOps R PR (⟨dst, .new p, args, none⟩::l) K s = @onSomeI _ (p.exec (args.map s.eval) s.heap.length) ⟨fun v=>@withStI (s.put dst v.1 (s.heap++[v.2])) ⟨awOps R PR l K⟩⟩:=(rfl)
@[go_sem ↓] theorem awOps_newAt (dst:Option Nat) (j:Nat) (p:NOp) (args:List Opd) (l:List AOper) (K:St→Prop) (s:St) :
    awOps R PR (⟨dst, .newAt j p, args, none⟩::l) K s = @onAtI (p.exec (args.map s.eval) (s.rb+j)) s.heap[s.rb+j]? ⟨fun v=>@withStI (s.put dst v.1 (s.heap.set (s.rb+j) v.2)) ⟨awOps R PR l K⟩⟩:=(rfl)
@[go_sem ↓] theorem awOps_eff (dst:Option Nat) (p:EOp) (args:List Opd) (l:List AOper) (K:St→Prop) (s:St) :
    awOps R PR (⟨dst, .eff p, args, none⟩::l) K s = @onSomeI _ (p.exec (args.map s.eval) s.heap) ⟨fun v=>@withStI (s.put dst v.1 v.2) ⟨awOps R PR l K⟩⟩:=(rfl)
@[go_sem ↓] theorem awOps_call (dst:Option Nat) (f:Nat) (args:List Opd) (l:List AOper) (K:St→Prop) (s:St) :
    awOps R PR (⟨dst, .call f, args, none⟩::l) K s = @awCallI R f (args.map s.eval) s.heap ⟨fun v H'=>@withStI (s.put dst v H') ⟨awOps R PR l K⟩⟩:=(rfl)
@[go_sem ↓] theorem awOps_pcall (dst:Option Nat) (f:Nat) (args:List Opd) (l:List AOper) (K:St→Prop) (s:St) :
    awOps R PR (⟨dst, .pcall f, args, none⟩::l) K s =
      @onSomeI _ (omap (frz s.heap 6) (args.map s.eval)) ⟨fun ts=>@awPureI PR f ts ⟨fun v=>@withStI (s.put dst v (afterPure s.heap (args.map s.eval) v)) ⟨awOps R PR l K⟩⟩⟩:=(rfl)
@[go_sem ↓] theorem awOps_callv (dst:Option Nat) (args:List Opd) (l:List AOper) (K:St→Prop) (s:St) :
    awOps R PR (⟨dst, .callv, args, none⟩::l) K s = @onFnI (args.map s.eval) ⟨fun f as=>@awCallI R f as s.heap ⟨fun v H'=>@withStI (s.put dst v H') ⟨awOps R PR l K⟩⟩⟩:=(rfl)
@[go_sem ↓] theorem awOps_guard (dst:Option Nat) (op:AOp) (args:List Opd) (t:Nat) (b:Bool) (l:List AOper) (K:St→Prop) (s:St) :
    awOps R PR (⟨dst, op, args, some (t, b)⟩::l) K s = @onWantI (s.wanted (some (t, b))) ⟨awOps R PR (⟨dst, op, args, none⟩::l) K s⟩ ⟨@withStI (s.put dst undef s.heap) ⟨awOps R PR l K⟩⟩:=(rfl)

@[go_sem ↓] theorem aw_skip (Q:Ex→St→Prop) (s:St):aw R PR .skip Q s=Q .normal s:=(rfl)
@[go_sem ↓] theorem aw_ops (l:List AOper) (Q:Ex→St→Prop) (s:St):aw R PR (.ops l) Q s=awOps R PR l (Q .normal) s:=(rfl)
@[go_sem ↓] theorem aw_seq (a b:ACode) (Q:Ex→St→Prop) (s:St):aw R PR (.seq a b) Q s=aw R PR a (awThen (aw R PR b Q) Q) s:=(rfl)
@[go_sem ↓] theorem aw_cond (x:Opd) (a b:ACode) (Q:Ex→St→Prop) (s:St):aw R PR (.cond x a b) Q s = @onBoolI (s.eval x) ⟨aw R PR a Q s⟩ ⟨aw R PR b Q s⟩:=(rfl)
@[go_sem ↓] theorem aw_block (id:Nat) (b:ACode) (Q:Ex→St→Prop) (s:St):aw R PR (.block id b) Q s=aw R PR b (awBlock id Q) s:=(rfl)
@[go_sem ↓] theorem aw_loopI (live:List Nat) (b:ACode) (Q:Ex→St→Prop) (s:St):aw R PR (.loop live b) Q s = @awLoopI live s ⟨R, PR, b, Q⟩:=(rfl)
@[go_sem ↓] theorem aw_scope (b:ACode) (Q:Ex→St→Prop) (s:St):aw R PR (.scope b) Q s=aw R PR b Q s:=(rfl)
@[go_sem ↓] theorem awBlock_normal (id:Nat) (Q:Ex→St→Prop) (s:St):awBlock id Q .normal s=Q .normal s:=(rfl)
@[go_sem ↓] theorem awBlock_ret (id:Nat) (Q:Ex→St→Prop) (s:St):awBlock id Q .ret s=Q .ret s:=(rfl)
@[go_sem ↓] theorem awBlock_exit (id:Nat) (Q:Ex→St→Prop) (s:St):awBlock id Q (.exit id) s=Q .normal s:=by
  unfold awBlock Ex.out
  simp only[if_true]
theorem awBlock_other {id i:Nat} (h : ¬ i=id) (Q:Ex→St→Prop) (s:St):awBlock id Q (.exit i) s=Q (.exit i) s:=by
  unfold awBlock Ex.out
  simp only[h, if_false]
attribute [go_sem] awBlock_other
@[go_sem ↓] theorem aw_exit (id:Nat) (Q:Ex→St→Prop) (s:St):aw R PR (.exit id) Q s=Q (.exit id) s:=(rfl)
@[go_sem ↓] theorem aw_ret (Q:Ex→St→Prop) (s:St):aw R PR .ret Q s=Q .ret s:=(rfl)
@[go_sem ↓] theorem awThen_normal (next:St→Prop) (Q:Ex→St→Prop) (s:St):awThen next Q .normal s=next s:=(rfl)
@[go_sem ↓] theorem awThen_exit (next:St→Prop) (Q:Ex→St→Prop) (i:Nat) (s:St):awThen next Q (.exit i) s=Q (.exit i) s:=(rfl)
@[go_sem ↓] theorem awThen_ret (next:St→Prop) (Q:Ex→St→Prop) (s:St):awThen next Q .ret s=Q .ret s:=(rfl)

attribute [go_sem] POp.exec ROp.exec NOp.exec EOp.exec xMove xPick xBuild xBin xEqB xEqF xEqN eqNil negIf xUn xConv xConvStr xExt xField xIdxArr xIdxStr xFaddr xIaddrS tptrOf xIaddrA xLenS xLenL xChk xIfc xMM mmax byteAV
  binop binInt intBin intShift unop strBin cellsEq cellEq part overwrite xSliceS sliceStr xSliceL sliceTsl sliceRef sliceNil bounds bound2 bound3 undef AV.cells
  xLoad Heap.load onRow onMap rowLoad oneCell cellsAt loadFrom xBytesStr strOf xLenMap found keyEq findKey xLookup xSliceArr AV.one AV.solid
  xNew xBox xBuildSlice xMkSlice xMkMap xStrBytes unit xStore xAppend xAppendStr xCopy mapPut xMapSet mapDrop xDelete xClearMap xClearS xLookupK xMapSetK keyFits
  Heap.store rowStore newElem setCells bind2 Heap.strike strikeGo Heap.elems freshRow Heap.append Heap.flatOf omap St.wanted AV.aged AV.young AV.isPure AV.pureN AV.isPlain AV.plainN afterPure frzRefs markRO

attribute [go_sem] List.map_cons List.map_nil List.getD_cons_zero List.getD_cons_succ List.getD_nil List.getElem?_cons_zero List.getElem?_cons_succ List.getElem?_nil List.length_cons List.length_nil List.set_cons_zero List.set_cons_succ List.cons_append List.nil_append
  List.replicate_succ List.replicate_zero List.drop_zero List.drop_succ_cons List.take_zero List.take_succ_cons List.take_nil List.drop_nil List.zip_cons_cons List.zip_nil_left List.zip_nil_right List.all_cons List.all_nil List.foldl_cons List.foldl_nil
  if_true if_false ite_true ite_false and_self and_true true_and and_false false_and or_false false_or or_true true_or not_true_eq_false not_false_eq_true ne_eq reduceCtorEq Option.map_some Option.map_none Option.bind_some Option.bind_none
  Bool.and_true Bool.true_and Bool.and_false Bool.false_and Bool.not_true Bool.not_false Bool.false_eq_true decide_true decide_false eq_self Nat.zero_add Nat.add_zero beq_self_eq_true

attribute [go_sem] Nat.reduceAdd Nat.reduceSub Nat.reduceMul Nat.reduceDiv Nat.reduceMod Nat.reduceEqDiff Nat.reduceLeDiff Nat.reduceLT Nat.reduceBEq Nat.reducePow Int.reduceAdd Int.reduceSub Int.reduceMul Int.reduceEq Int.reduceLT Int.reduceLE Int.reduceToNat Int.reduceNeg Int.reduceBEq Int.reduceBNe
/-- What a pure function owes at its end. -/
def PostP (res:List ResV) (v:AV) (e:Ex) (s:St):Prop:=(e = .normal∨e = .ret)∧∃ u, results res s=some u∧frz s.heap 6 u=some v
theorem postP_of {res:List ResV} {v:AV} {e:Ex} {s:St} (he:e = .normal∨e = .ret) (h:(results res s).bind (frz s.heap 6)=some v):PostP res v e s:=by
  cases hr:results res s with
  | none=>rw[hr] at h; cases h
  | some u=>rw[hr] at h; exact ⟨he, u, hr, h⟩
theorem postP_ret_eq (res:List ResV) (v:AV) (s:St):PostP res v .ret s=((results res s).bind (frz s.heap 6)=some v):=by
  apply propext
  constructor
  · rintro ⟨_, u, h1, h2⟩
    rw[h1]; exact h2
  · exact fun h=>postP_of (.inr rfl) h
theorem postP_normal_eq (res:List ResV) (v:AV) (s:St):PostP res v .normal s=((results res s).bind (frz s.heap 6)=some v):=by
  apply propext
  constructor
  · rintro ⟨_, u, h1, h2⟩
    rw[h1]; exact h2
  · exact fun h=>postP_of (.inl rfl) h
attribute [go_sem] postP_ret_eq postP_normal_eq results resOne
@[go_sem] theorem frz1_int (H:Heap) (k:Go.IntKind) (n:Int):frz H 1 (.int k n)=some (.int k n):=(rfl)
@[go_sem] theorem frz1_bool (H:Heap) (b:Bool):frz H 1 (.bool b)=some (.bool b):=(rfl)
@[go_sem] theorem frz1_str (H:Heap) (b:List UInt8):frz H 1 (.str b)=some (.str b):=(rfl)
@[go_sem] theorem frz1_nilp (H:Heap)  : frz H 1 .nilp=some .nilp:=(rfl)
@[go_sem] theorem frz1_nilf (H:Heap)  : frz H 1 .nilf=some .nilf:=(rfl)
@[go_sem] theorem frz1_nili (H:Heap)  : frz H 1 .nili=some .nili:=(rfl)
@[go_sem] theorem frz1_nilm (H:Heap)  : frz H 1 .nilm=some .nilm:=(rfl)
@[go_sem] theorem frz1_tsl (H:Heap) (n:Nat) (l:List AV):frz H 1 (.tsl n l)=some (.tsl n l):=(rfl)
@[go_sem] theorem frz1_tptr (H:Heap) (cs:List AV) (o:Nat):frz H 1 (.tptr cs o)=some (.tptr cs o):=(rfl)
@[go_sem] theorem frz1_snil (H:Heap) (n:Nat):frz H 1 (.snil n)=some (.tsl n []):=(rfl)
@[go_sem] theorem frz1_agg (H:Heap) (cs:List AV):frz H 1 (.agg cs)=(omap (frz H 0) cs).map .agg:=(rfl)
@[go_sem] theorem frz1_tup (H:Heap) (cs:List AV):frz H 1 (.tup cs)=(omap (frz H 0) cs).map .tup:=(rfl)
@[go_sem] theorem frz1_fn (H:Heap) (f:Nat) (cap:List AV):frz H 1 (.fn f cap)=(omap (frz H 0) cap).map (.fn f):=(rfl)
@[go_sem] theorem frz1_ptr (H:Heap) (n r i off:Nat):frz H 1 (.ptr n r i off) =
    match H[r]? with
    | some (.row n' els _ fl _)=>if n'=n then (match els[i]? with | some e=>if fl then some (.tptr e.cells off) else (omap (frz H 0) e.cells).map fun cs=>.tptr cs off | none=>none) else none
    | _=>none:=(rfl)
@[go_sem] theorem frz1_sref (H:Heap) (n r i len:Nat):frz H 1 (.sref n r i len) =
    match H[r]? with
    | some (.row n' els _ fl _)=>if n'=n∧i+len≤els.length then (if fl then some (.tsl n ((els.drop i).take len)) else (omap (frz H 0) ((els.drop i).take len)).map (.tsl n)) else none
    | _=>none:=(rfl)
@[go_sem] theorem frz2_int (H:Heap) (k:Go.IntKind) (n:Int):frz H 2 (.int k n)=some (.int k n):=(rfl)
@[go_sem] theorem frz2_bool (H:Heap) (b:Bool):frz H 2 (.bool b)=some (.bool b):=(rfl)
@[go_sem] theorem frz2_str (H:Heap) (b:List UInt8):frz H 2 (.str b)=some (.str b):=(rfl)
@[go_sem] theorem frz2_nilp (H:Heap)  : frz H 2 .nilp=some .nilp:=(rfl)
@[go_sem] theorem frz2_nilf (H:Heap)  : frz H 2 .nilf=some .nilf:=(rfl)
@[go_sem] theorem frz2_nili (H:Heap)  : frz H 2 .nili=some .nili:=(rfl)
@[go_sem] theorem frz2_nilm (H:Heap)  : frz H 2 .nilm=some .nilm:=(rfl)
@[go_sem] theorem frz2_tsl (H:Heap) (n:Nat) (l:List AV):frz H 2 (.tsl n l)=some (.tsl n l):=(rfl)
@[go_sem] theorem frz2_tptr (H:Heap) (cs:List AV) (o:Nat):frz H 2 (.tptr cs o)=some (.tptr cs o):=(rfl)
@[go_sem] theorem frz2_snil (H:Heap) (n:Nat):frz H 2 (.snil n)=some (.tsl n []):=(rfl)
@[go_sem] theorem frz2_agg (H:Heap) (cs:List AV):frz H 2 (.agg cs)=(omap (frz H 1) cs).map .agg:=(rfl)
@[go_sem] theorem frz2_tup (H:Heap) (cs:List AV):frz H 2 (.tup cs)=(omap (frz H 1) cs).map .tup:=(rfl)
@[go_sem] theorem frz2_fn (H:Heap) (f:Nat) (cap:List AV):frz H 2 (.fn f cap)=(omap (frz H 1) cap).map (.fn f):=(rfl)
@[go_sem] theorem frz2_ptr (H:Heap) (n r i off:Nat):frz H 2 (.ptr n r i off) =
    match H[r]? with
    | some (.row n' els _ fl _)=>if n'=n then (match els[i]? with | some e=>if fl then some (.tptr e.cells off) else (omap (frz H 1) e.cells).map fun cs=>.tptr cs off | none=>none) else none
    | _=>none:=(rfl)
@[go_sem] theorem frz2_sref (H:Heap) (n r i len:Nat):frz H 2 (.sref n r i len) =
    match H[r]? with
    | some (.row n' els _ fl _)=>if n'=n∧i+len≤els.length then (if fl then some (.tsl n ((els.drop i).take len)) else (omap (frz H 1) ((els.drop i).take len)).map (.tsl n)) else none
    | _=>none:=(rfl)
@[go_sem] theorem frz3_int (H:Heap) (k:Go.IntKind) (n:Int):frz H 3 (.int k n)=some (.int k n):=(rfl)
@[go_sem] theorem frz3_bool (H:Heap) (b:Bool):frz H 3 (.bool b)=some (.bool b):=(rfl)
@[go_sem] theorem frz3_str (H:Heap) (b:List UInt8):frz H 3 (.str b)=some (.str b):=(rfl)
@[go_sem] theorem frz3_nilp (H:Heap)  : frz H 3 .nilp=some .nilp:=(rfl)
@[go_sem] theorem frz3_nilf (H:Heap)  : frz H 3 .nilf=some .nilf:=(rfl)
@[go_sem] theorem frz3_nili (H:Heap)  : frz H 3 .nili=some .nili:=(rfl)
@[go_sem] theorem frz3_nilm (H:Heap)  : frz H 3 .nilm=some .nilm:=(rfl)
@[go_sem] theorem frz3_tsl (H:Heap) (n:Nat) (l:List AV):frz H 3 (.tsl n l)=some (.tsl n l):=(rfl)
@[go_sem] theorem frz3_tptr (H:Heap) (cs:List AV) (o:Nat):frz H 3 (.tptr cs o)=some (.tptr cs o):=(rfl)
@[go_sem] theorem frz3_snil (H:Heap) (n:Nat):frz H 3 (.snil n)=some (.tsl n []):=(rfl)
@[go_sem] theorem frz3_agg (H:Heap) (cs:List AV):frz H 3 (.agg cs)=(omap (frz H 2) cs).map .agg:=(rfl)
@[go_sem] theorem frz3_tup (H:Heap) (cs:List AV):frz H 3 (.tup cs)=(omap (frz H 2) cs).map .tup:=(rfl)
@[go_sem] theorem frz3_fn (H:Heap) (f:Nat) (cap:List AV):frz H 3 (.fn f cap)=(omap (frz H 2) cap).map (.fn f):=(rfl)
@[go_sem] theorem frz3_ptr (H:Heap) (n r i off:Nat):frz H 3 (.ptr n r i off) =
    match H[r]? with
    | some (.row n' els _ fl _)=>if n'=n then (match els[i]? with | some e=>if fl then some (.tptr e.cells off) else (omap (frz H 2) e.cells).map fun cs=>.tptr cs off | none=>none) else none
    | _=>none:=(rfl)
@[go_sem] theorem frz3_sref (H:Heap) (n r i len:Nat):frz H 3 (.sref n r i len) =
    match H[r]? with
    | some (.row n' els _ fl _)=>if n'=n∧i+len≤els.length then (if fl then some (.tsl n ((els.drop i).take len)) else (omap (frz H 2) ((els.drop i).take len)).map (.tsl n)) else none
    | _=>none:=(rfl)
@[go_sem] theorem frz4_int (H:Heap) (k:Go.IntKind) (n:Int):frz H 4 (.int k n)=some (.int k n):=(rfl)
@[go_sem] theorem frz4_bool (H:Heap) (b:Bool):frz H 4 (.bool b)=some (.bool b):=(rfl)
@[go_sem] theorem frz4_str (H:Heap) (b:List UInt8):frz H 4 (.str b)=some (.str b):=(rfl)
@[go_sem] theorem frz4_nilp (H:Heap)  : frz H 4 .nilp=some .nilp:=(rfl)
@[go_sem] theorem frz4_nilf (H:Heap)  : frz H 4 .nilf=some .nilf:=(rfl)
@[go_sem] theorem frz4_nili (H:Heap)  : frz H 4 .nili=some .nili:=(rfl)
@[go_sem] theorem frz4_nilm (H:Heap)  : frz H 4 .nilm=some .nilm:=(rfl)
@[go_sem] theorem frz4_tsl (H:Heap) (n:Nat) (l:List AV):frz H 4 (.tsl n l)=some (.tsl n l):=(rfl)
@[go_sem] theorem frz4_tptr (H:Heap) (cs:List AV) (o:Nat):frz H 4 (.tptr cs o)=some (.tptr cs o):=(rfl)
@[go_sem] theorem frz4_snil (H:Heap) (n:Nat):frz H 4 (.snil n)=some (.tsl n []):=(rfl)
@[go_sem] theorem frz4_agg (H:Heap) (cs:List AV):frz H 4 (.agg cs)=(omap (frz H 3) cs).map .agg:=(rfl)
@[go_sem] theorem frz4_tup (H:Heap) (cs:List AV):frz H 4 (.tup cs)=(omap (frz H 3) cs).map .tup:=(rfl)
@[go_sem] theorem frz4_fn (H:Heap) (f:Nat) (cap:List AV):frz H 4 (.fn f cap)=(omap (frz H 3) cap).map (.fn f):=(rfl)
@[go_sem] theorem frz4_ptr (H:Heap) (n r i off:Nat):frz H 4 (.ptr n r i off) =
    match H[r]? with
    | some (.row n' els _ fl _)=>if n'=n then (match els[i]? with | some e=>if fl then some (.tptr e.cells off) else (omap (frz H 3) e.cells).map fun cs=>.tptr cs off | none=>none) else none
    | _=>none:=(rfl)
@[go_sem] theorem frz4_sref (H:Heap) (n r i len:Nat):frz H 4 (.sref n r i len) =
    match H[r]? with
    | some (.row n' els _ fl _)=>if n'=n∧i+len≤els.length then (if fl then some (.tsl n ((els.drop i).take len)) else (omap (frz H 3) ((els.drop i).take len)).map (.tsl n)) else none
    | _=>none:=(rfl)
@[go_sem] theorem frz5_int (H:Heap) (k:Go.IntKind) (n:Int):frz H 5 (.int k n)=some (.int k n):=(rfl)
@[go_sem] theorem frz5_bool (H:Heap) (b:Bool):frz H 5 (.bool b)=some (.bool b):=(rfl)
@[go_sem] theorem frz5_str (H:Heap) (b:List UInt8):frz H 5 (.str b)=some (.str b):=(rfl)
@[go_sem] theorem frz5_nilp (H:Heap)  : frz H 5 .nilp=some .nilp:=(rfl)
@[go_sem] theorem frz5_nilf (H:Heap)  : frz H 5 .nilf=some .nilf:=(rfl)
@[go_sem] theorem frz5_nili (H:Heap)  : frz H 5 .nili=some .nili:=(rfl)
@[go_sem] theorem frz5_nilm (H:Heap)  : frz H 5 .nilm=some .nilm:=(rfl)
@[go_sem] theorem frz5_tsl (H:Heap) (n:Nat) (l:List AV):frz H 5 (.tsl n l)=some (.tsl n l):=(rfl)
@[go_sem] theorem frz5_tptr (H:Heap) (cs:List AV) (o:Nat):frz H 5 (.tptr cs o)=some (.tptr cs o):=(rfl)
@[go_sem] theorem frz5_snil (H:Heap) (n:Nat):frz H 5 (.snil n)=some (.tsl n []):=(rfl)
@[go_sem] theorem frz5_agg (H:Heap) (cs:List AV):frz H 5 (.agg cs)=(omap (frz H 4) cs).map .agg:=(rfl)
@[go_sem] theorem frz5_tup (H:Heap) (cs:List AV):frz H 5 (.tup cs)=(omap (frz H 4) cs).map .tup:=(rfl)
@[go_sem] theorem frz5_fn (H:Heap) (f:Nat) (cap:List AV):frz H 5 (.fn f cap)=(omap (frz H 4) cap).map (.fn f):=(rfl)
@[go_sem] theorem frz5_ptr (H:Heap) (n r i off:Nat):frz H 5 (.ptr n r i off) =
    match H[r]? with
    | some (.row n' els _ fl _)=>if n'=n then (match els[i]? with | some e=>if fl then some (.tptr e.cells off) else (omap (frz H 4) e.cells).map fun cs=>.tptr cs off | none=>none) else none
    | _=>none:=(rfl)
@[go_sem] theorem frz5_sref (H:Heap) (n r i len:Nat):frz H 5 (.sref n r i len) =
    match H[r]? with
    | some (.row n' els _ fl _)=>if n'=n∧i+len≤els.length then (if fl then some (.tsl n ((els.drop i).take len)) else (omap (frz H 4) ((els.drop i).take len)).map (.tsl n)) else none
    | _=>none:=(rfl)
@[go_sem] theorem frz6_int (H:Heap) (k:Go.IntKind) (n:Int):frz H 6 (.int k n)=some (.int k n):=(rfl)
@[go_sem] theorem frz6_bool (H:Heap) (b:Bool):frz H 6 (.bool b)=some (.bool b):=(rfl)
@[go_sem] theorem frz6_str (H:Heap) (b:List UInt8):frz H 6 (.str b)=some (.str b):=(rfl)
@[go_sem] theorem frz6_nilp (H:Heap)  : frz H 6 .nilp=some .nilp:=(rfl)
@[go_sem] theorem frz6_nilf (H:Heap)  : frz H 6 .nilf=some .nilf:=(rfl)
@[go_sem] theorem frz6_nili (H:Heap)  : frz H 6 .nili=some .nili:=(rfl)
@[go_sem] theorem frz6_nilm (H:Heap)  : frz H 6 .nilm=some .nilm:=(rfl)
@[go_sem] theorem frz6_tsl (H:Heap) (n:Nat) (l:List AV):frz H 6 (.tsl n l)=some (.tsl n l):=(rfl)
@[go_sem] theorem frz6_tptr (H:Heap) (cs:List AV) (o:Nat):frz H 6 (.tptr cs o)=some (.tptr cs o):=(rfl)
@[go_sem] theorem frz6_snil (H:Heap) (n:Nat):frz H 6 (.snil n)=some (.tsl n []):=(rfl)
@[go_sem] theorem frz6_agg (H:Heap) (cs:List AV):frz H 6 (.agg cs)=(omap (frz H 5) cs).map .agg:=(rfl)
@[go_sem] theorem frz6_tup (H:Heap) (cs:List AV):frz H 6 (.tup cs)=(omap (frz H 5) cs).map .tup:=(rfl)
@[go_sem] theorem frz6_fn (H:Heap) (f:Nat) (cap:List AV):frz H 6 (.fn f cap)=(omap (frz H 5) cap).map (.fn f):=(rfl)
@[go_sem] theorem frz6_ptr (H:Heap) (n r i off:Nat):frz H 6 (.ptr n r i off) =
    match H[r]? with
    | some (.row n' els _ fl _)=>if n'=n then (match els[i]? with | some e=>if fl then some (.tptr e.cells off) else (omap (frz H 5) e.cells).map fun cs=>.tptr cs off | none=>none) else none
    | _=>none:=(rfl)
@[go_sem] theorem frz6_sref (H:Heap) (n r i len:Nat):frz H 6 (.sref n r i len) =
    match H[r]? with
    | some (.row n' els _ fl _)=>if n'=n∧i+len≤els.length then (if fl then some (.tsl n ((els.drop i).take len)) else (omap (frz H 5) ((els.drop i).take len)).map (.tsl n)) else none
    | _=>none:=(rfl)
end
section
variable {C:Ctx}
theorem prun_of {f:Nat} (fn:AFn) {ts:List AV} {v:AV} (hf:C.code f=some fn) (h : @withStI (enter fn ts []) ⟨aw (RunOf C) (PRun C) fn.body (PostP fn.res v)⟩):PRun C f ts v:=prun_of_aw hf h
end
section
variable {R:Nat→List AV→Heap→AV→Heap→Prop} {PR:Nat→List AV→AV→Prop}
theorem loop_of {α:Type} {live:List Nat} {b:ACode} {Q:Ex→St→Prop} {s:St} (st:α→St) (Inv:α→Prop) (μ:α→Nat) (a0:α) (h0:s.norm live=st a0) (hi:Inv a0)
    (round : ∀ a, Inv a→aw R PR b (awThen (fun t=>∃ a', t.norm live=st a'∧Inv a'∧μ a'<μ a) Q) (st a)) (hz:hintsOf live=[]:=by rfl) : @awLoopI live s ⟨R, PR, b, Q⟩:=by
  refine aw_loop st Inv μ a0 (by rw[head_norm hz]; exact h0) hi ?_
  simp only[head_norm hz]
  exact round
/-- Where the head holds slices as trees. -/
theorem loop_hd {α:Type} {live:List Nat} {b:ACode} {Q:Ex→St→Prop} {s:St} (st:α→St) (Inv:α→Prop) (μ:α→Nat) (a0:α) (h0:s.head live=st a0) (hi:Inv a0)
    (round : ∀ a, Inv a→aw R PR b (awThen (fun t=>∃ a', t.head live=st a'∧Inv a'∧μ a'<μ a) Q) (st a)) : @awLoopI live s ⟨R, PR, b, Q⟩:=aw_loop st Inv μ a0 h0 hi round
theorem pure_of {f:Nat} {ts:List AV} {k:AV→Prop} (v:AV) (h:PR f ts v) (hk:k v) : @awPureI PR f ts ⟨k⟩:=⟨v, h, hk⟩
theorem call_of {f:Nat} {args:List AV} {H:Heap} {k:AV→Heap→Prop} (v:AV) (H':Heap) (h:R f args H v H') (hk:k v H') : @awCallI R f args H ⟨k⟩:=⟨v, H', h, hk⟩
end
end Ago

/-! ### Arithmetic without overflow, splits, slots -/

namespace Ago
open Go (IntKind)

theorem w64 {n:Int} (h1 : -9223372036854775808≤n) (h2:n<9223372036854775808):IntKind.wrap .i64 n=n:=by
  simp [IntKind.wrap, IntKind.bits, IntKind.signed]
  split<;>omega
theorem w64b (c:UInt8):IntKind.wrap .i64 (c.toNat:Int)=c.toNat:=by
  have:=c.toNat_lt
  exact w64 (by omega) (by omega)
theorem w8 {n:Int} (h1:0≤n) (h2:n<256):IntKind.wrap .u8 n=n:=by
  simp [IntKind.wrap, IntKind.bits, IntKind.signed]
  omega

theorem dT {a b:Int} (h:a<b):decide (a<b)=true:=by simp [h]
theorem dF {a b:Int} (h:b≤a):decide (a<b)=false:=by simp; omega
theorem dlT {a b:Int} (h:a≤b):decide (a≤b)=true:=by simp [h]
theorem dlF {a b:Int} (h:b<a):decide (a≤b)=false:=by simp; omega
theorem beqT {a b:Int} (h:a=b):(a == b)=true:=by simp [h]
theorem beqF {a b:Int} (h : ¬ a=b):(a == b)=false:=by simp [h]
theorem bneT {a b:Int} (h : ¬ a=b):(a != b)=true:=by simp [h]
theorem bneF {a b:Int} (h:a=b):(a != b)=false:=by simp [h]
theorem leT {a b:Int} (h:a≤b):(a≤b)=True:=by simp [h]
theorem ltT {a b:Int} (h:a<b):(a<b)=True:=by simp [h]
theorem nleT {a b:Nat} (h:a≤b):(a≤b)=True:=by simp [h]

@[go_sem] theorem want_undef (s:St) (t:Nat) (b:Bool) (h:s.tmps[t]?=some (.tup [])):s.wanted (some (t, b))=some false:=by simp [St.wanted, h]

/-- n slots, some of which are given. -/
def slots (n:Nat) (l:List (Nat × AV)):List AV:=l.foldl (fun s x=>s.set x.1 x.2) (List.replicate n .dead)
end Ago
namespace Ago
section
variable {p:Prop} [Decidable p] {A B:Prop} {a b:Int} {c:Bool}
theorem wantDf (h1 : ¬ p→A) (h2:p→B) : @onWantI (some (decide p == false)) ⟨A⟩ ⟨B⟩:=by
  by_cases h:p
  · simpa [onWantI, onWant, h] using h2 h
  · simpa [onWantI, onWant, h] using h1 h
theorem wantDt (h1:p→A) (h2 : ¬ p→B) : @onWantI (some (decide p == true)) ⟨A⟩ ⟨B⟩:=by
  by_cases h:p
  · simpa [onWantI, onWant, h] using h1 h
  · simpa [onWantI, onWant, h] using h2 h
theorem beq_dec:(a == b)=decide (a=b):=by by_cases h:a=b<;>simp [h]
theorem bne_dec:(a != b)=decide (¬ a=b):=by by_cases h:a=b<;>simp [h]
theorem wantEf (h1 : ¬ a=b→A) (h2:a=b→B) : @onWantI (some ((a == b) == false)) ⟨A⟩ ⟨B⟩:=by
  rw[beq_dec]
  exact wantDf h1 h2
theorem wantEt (h1:a=b→A) (h2 : ¬ a=b→B) : @onWantI (some ((a == b) == true)) ⟨A⟩ ⟨B⟩:=by
  rw[beq_dec]
  exact wantDt h1 h2
theorem wantNf (h1:a=b→A) (h2 : ¬ a=b→B) : @onWantI (some ((a != b) == false)) ⟨A⟩ ⟨B⟩:=by
  rw[bne_dec]
  exact wantDf (fun h=>h1 (Classical.not_not.1 h)) h2
theorem wantNt (h1 : ¬ a=b→A) (h2:a=b→B) : @onWantI (some ((a != b) == true)) ⟨A⟩ ⟨B⟩:=by
  rw[bne_dec]
  exact wantDt h1 (fun h=>h2 (Classical.not_not.1 h))
theorem wantBf (h1:c=false→A) (h2:c=true→B) : @onWantI (some (c == false)) ⟨A⟩ ⟨B⟩:=by
  cases c
  · exact h1 rfl
  · exact h2 rfl
theorem wantBt (h1:c=true→A) (h2:c=false→B) : @onWantI (some (c == true)) ⟨A⟩ ⟨B⟩:=by
  cases c
  · exact h2 rfl
  · exact h1 rfl
theorem boolD (h1:p→A) (h2 : ¬ p→B) : @onBoolI (.bool (decide p)) ⟨A⟩ ⟨B⟩:=by
  by_cases h:p
  · simpa [onBoolI, onBool, h] using h1 h
  · simpa [onBoolI, onBool, h] using h2 h
theorem boolE (h1:a=b→A) (h2 : ¬ a=b→B) : @onBoolI (.bool (a == b)) ⟨A⟩ ⟨B⟩:=by
  rw[beq_dec]
  exact boolD h1 h2
theorem boolN (h1 : ¬ a=b→A) (h2:a=b→B) : @onBoolI (.bool (a != b)) ⟨A⟩ ⟨B⟩:=by
  rw[bne_dec]
  exact boolD h1 (fun h=>h2 (Classical.not_not.1 h))
theorem boolB (h1:c=true→A) (h2:c=false→B) : @onBoolI (.bool c) ⟨A⟩ ⟨B⟩:=by
  cases c
  · exact h2 rfl
  · exact h1 rfl
theorem boolNB (h1:c=false→A) (h2:c=true→B) : @onBoolI (.bool (!c)) ⟨A⟩ ⟨B⟩:=by
  cases c
  · exact h1 rfl
  · exact h2 rfl
theorem wantNBf (h1:c=true→A) (h2:c=false→B) : @onWantI (some ((!c) == false)) ⟨A⟩ ⟨B⟩:=by
  cases c
  · exact h2 rfl
  · exact h1 rfl
theorem wantNBt (h1:c=false→A) (h2:c=true→B) : @onWantI (some ((!c) == true)) ⟨A⟩ ⟨B⟩:=by
  cases c
  · exact h1 rfl
  · exact h2 rfl
end
end Ago
namespace Ago
@[go_sem] theorem bTT:(true == true)=true:=(rfl)
@[go_sem] theorem bTF:(true == false)=false:=(rfl)
@[go_sem] theorem bFT:(false == true)=false:=(rfl)
@[go_sem] theorem bFF:(false == false)=true:=(rfl)
end Ago
namespace Ago
/-- What a pure function owes at its end, its result not named. -/
def PostE (res:List ResV) (k:AV→Prop) (e:Ex) (s:St):Prop:=(e = .normal∨e = .ret)∧onSome ((results res s).bind (frz s.heap 6)) k
@[go_sem] theorem postE_ret (res:List ResV) (k:AV→Prop) (s:St):PostE res k .ret s=onSome ((results res s).bind (frz s.heap 6)) k:=by simp [PostE]
@[go_sem] theorem postE_normal (res:List ResV) (k:AV→Prop) (s:St):PostE res k .normal s=onSome ((results res s).bind (frz s.heap 6)) k:=by simp [PostE]
@[go_sem] theorem onSome_some {α:Type} (v:α) (k:α→Prop):onSome (some v) k=k v:=(rfl)
theorem prunE_of {C:Ctx} {f:Nat} (fn:AFn) {ts:List AV} {k:AV→Prop} (hf:C.code f=some fn) (h : @withStI (enter fn ts []) ⟨aw (RunOf C) (PRun C) fn.body (PostE fn.res k)⟩) : ∃ v, PRun C f ts v∧k v:=by
  obtain ⟨e, s, h1, he, h2⟩:=aw_sound fn.body (PostE fn.res k) _ h
  obtain ⟨v, h3, h4⟩:=onSome_elim h2
  obtain ⟨u, h5, h6⟩:=Option.bind_eq_some_iff.1 h3
  exact ⟨v, .prun hf h1 he h5 h6, h4⟩
theorem lim_eq:lim=2147483648:=(rfl)
theorem cast0:((0:Nat):Int)=0:=(rfl)
theorem cast1:((1:Nat):Int)=1:=(rfl)
attribute [go_sem] slots List.flatMap_cons List.flatMap_nil List.append_nil w64b lim_eq Int.reducePow cast0 cast1 Int.cast_ofNat_Int w64 w8 dT dF dlT dlF beqT beqF bneT bneF leT ltT nleT Int.toNat_natCast

/-- Functions that are taken by contract: slices.Clone, with rows, and of trees. -/
def mkCtx (code:Nat→Option AFn) (clR clP:Nat→Option (Nat × Nat)):Ctx where
  code:=code
  prim f args H v H':=∃ p x, clR f=some p∧args=[x]∧xAppend p.1 p.2 (H++[.gone]) [.snil p.1, x]=some (v, H')
  pprim f ts v:=∃ p l, clP f=some p∧ts=[.tsl p.1 l]∧l.length≤lim∧l.length * p.2≤2^40∧v = .tsl p.1 l
attribute [irreducible] onSomeI onBoolI onWantI onAtI onFnI withStI awCallI awPureI awLoopI
end Ago
/- Short names for the operations of the codes. -/
namespace Ago
abbrev Za (d i:Nat):AOper:=⟨some d, .pure .move, [.t i], none⟩
abbrev Zb (d i t:Nat) (b:Bool):AOper:=⟨some d, .pure .move, [.t i], some (t, b)⟩
abbrev Zc (d:Nat) (c:AV):AOper:=⟨some d, .pure .move, [.c c], none⟩
abbrev Zd (d i:Nat):AOper:=⟨some d, .read (.load none), [.t i], none⟩
abbrev Ze (d i t:Nat) (b:Bool):AOper:=⟨some d, .read (.load none), [.t i], some (t, b)⟩
abbrev Zf (d i n:Nat):AOper:=⟨some d, .read (.load (some n)), [.t i], none⟩
abbrev Zg (d i n t:Nat) (b:Bool):AOper:=⟨some d, .read (.load (some n)), [.t i], some (t, b)⟩
abbrev Zh (d i n:Nat):AOper:=⟨some d, .pure (.faddr n), [.t i], none⟩
abbrev Zi (d i n t:Nat) (b:Bool):AOper:=⟨some d, .pure (.faddr n), [.t i], some (t, b)⟩
abbrev Zj (d i j n:Nat):AOper:=⟨some d, .pure (.iaddrS n), [.t i, .t j], none⟩
abbrev Zk (d i j n t:Nat) (b:Bool):AOper:=⟨some d, .pure (.iaddrS n), [.t i, .t j], some (t, b)⟩
abbrev Zl (d i j:Nat) (o:Go.BinOp):AOper:=⟨some d, .pure (.bin o), [.t i, .t j], none⟩
abbrev Zm (d i j:Nat) (o:Go.BinOp) (t:Nat) (b:Bool):AOper:=⟨some d, .pure (.bin o), [.t i, .t j], some (t, b)⟩
abbrev Zn (d i:Nat) (c:Int) (o:Go.BinOp):AOper:=⟨some d, .pure (.bin o), [.t i, .c (.int .i64 c)], none⟩
abbrev Zo (d i:Nat) (c:Int) (o:Go.BinOp) (t:Nat) (b:Bool):AOper:=⟨some d, .pure (.bin o), [.t i, .c (.int .i64 c)], some (t, b)⟩
abbrev Zp (d i:Nat):AOper:=⟨some d, .pure .lenL, [.t i], none⟩
abbrev Zq (d i t:Nat) (b:Bool):AOper:=⟨some d, .pure .lenL, [.t i], some (t, b)⟩
abbrev Zr (d i:Nat):AOper:=⟨some d, .pure (.un .not), [.t i], none⟩
abbrev Zs (d i t:Nat) (b:Bool):AOper:=⟨some d, .pure (.un .not), [.t i], some (t, b)⟩
abbrev Zt (d i n:Nat):AOper:=⟨some d, .pure (.ext n), [.t i], none⟩
abbrev Zu (i j n:Nat):AOper:=⟨none, .eff (.store n), [.t i, .t j], none⟩
abbrev Zv (d i j:Nat) (c:Bool):AOper:=⟨some d, .pure .pick, [.t i, .t j, .c (.bool c)], none⟩
abbrev Zw (d i j:Nat) (c:Bool):AOper:=⟨some d, .pure .pick, [.t i, .c (.bool c), .t j], none⟩
abbrev Zx (d i n:Nat):AOper:=⟨some d, .new (.box n), [.t i], none⟩
abbrev Zy (d f i:Nat):AOper:=⟨some d, .pcall f, [.t i], none⟩
abbrev Zz (d f i j:Nat):AOper:=⟨some d, .pcall f, [.t i, .t j], none⟩
abbrev ZA (d f i j k:Nat):AOper:=⟨some d, .pcall f, [.t i, .t j, .t k], none⟩
abbrev ZB (d f i t:Nat) (b:Bool):AOper:=⟨some d, .pcall f, [.t i], some (t, b)⟩
abbrev ZC (d f i j t:Nat) (b:Bool):AOper:=⟨some d, .pcall f, [.t i, .t j], some (t, b)⟩
end Ago
/- Regions that draw one order, computed by simp. -/
namespace Ago
section
variable {R:Nat→List AV→Heap→AV→Heap→Prop} {PR:Nat→List AV→AV→Prop}

theorem awOps_exists : ∀ (l:List AOper) (K:St→Prop) (s:St), awOps R PR l K s→∃ s', awOps R PR l (fun t=>t=s') s∧K s'
  | [], K, s, h=>⟨s, rfl, h⟩
  | ⟨dst, op, args, g⟩::l, K, s, h=>by
    unfold awOps at h
    rcases onWant_elim h with ⟨hw, h⟩ | ⟨hw, h⟩
    · cases op with
      | pure p=>
        obtain ⟨v, hv, h⟩:=onSome_elim h
        obtain ⟨s', h1, h2⟩:=awOps_exists l K _ h
        refine ⟨s', ?_, h2⟩
        unfold awOps
        simp only[hw, onWant, hv, onSome]
        exact h1
      | read p=>
        obtain ⟨v, hv, h⟩:=onSome_elim h
        obtain ⟨s', h1, h2⟩:=awOps_exists l K _ h
        refine ⟨s', ?_, h2⟩
        unfold awOps
        simp only[hw, onWant, hv, onSome]
        exact h1
      | new p=>
        obtain ⟨v, hv, h⟩:=onSome_elim h
        obtain ⟨s', h1, h2⟩:=awOps_exists l K _ h
        refine ⟨s', ?_, h2⟩
        unfold awOps
        simp only[hw, onWant, hv, onSome]
        exact h1
      | newAt j p=>
        obtain ⟨v, hv, hf, h⟩:=onAt_elim h
        obtain ⟨s', h1, h2⟩:=awOps_exists l K _ h
        refine ⟨s', ?_, h2⟩
        unfold awOps
        simp only[hw, onWant, hv, hf, onAt]
        exact h1
      | eff p=>
        obtain ⟨v, hv, h⟩:=onSome_elim h
        obtain ⟨s', h1, h2⟩:=awOps_exists l K _ h
        refine ⟨s', ?_, h2⟩
        unfold awOps
        simp only[hw, onWant, hv, onSome]
        exact h1
      | call f=>
        obtain ⟨v, H', hr, h⟩:=h
        obtain ⟨s', h1, h2⟩:=awOps_exists l K _ h
        refine ⟨s', ?_, h2⟩
        unfold awOps
        simp only[hw, onWant]
        exact ⟨v, H', hr, h1⟩
      | pcall f=>
        obtain ⟨ts, ha, v, hr, h⟩:=onSome_elim h
        obtain ⟨s', h1, h2⟩:=awOps_exists l K _ h
        refine ⟨s', ?_, h2⟩
        unfold awOps
        simp only[hw, onWant, ha, onSome]
        exact ⟨v, hr, h1⟩
      | callv=>
        obtain ⟨f, cap, as, ha, v, H', hr, h⟩:=onFn_elim h
        obtain ⟨s', h1, h2⟩:=awOps_exists l K _ h
        refine ⟨s', ?_, h2⟩
        unfold awOps
        simp only[hw, onWant, ha, onFn]
        exact ⟨v, H', hr, h1⟩
      | bad=>exact h.elim
    · obtain ⟨s', h1, h2⟩:=awOps_exists l K _ h
      refine ⟨s', ?_, h2⟩
      unfold awOps
      simp only[hw, onWant]
      exact h1

@[go_sem ↓] theorem aw_draw1 (k:Nat) (l:List AOper) (Q:Ex→St→Prop) (s:St):aw R PR (.draw k [l]) Q s = @withStI (s.keep k) ⟨awOps R PR l fun t=>Q .normal { t with rb:=0 }⟩:=by
  apply propext
  unfold withStI
  constructor
  · rintro ⟨s', _, h1, h2⟩
    exact awOps_mono (fun t ht=>by rw[ht]; exact h2) l _ (h1 l (by simp))
  · intro h
    obtain ⟨s', h1, h2⟩:=awOps_exists l _ _ h
    exact ⟨s', by simp, fun l' hl'=>by rw[List.mem_singleton.1 hl']; exact h1, h2⟩

@[go_sem] theorem keep_mk (tm:List AV) (h:Heap) (b rb k:Nat):St.keep ⟨tm, h, b, rb⟩ k=⟨tm, h++List.replicate k .resv, b, h.length⟩:=(rfl)
end
end Ago
/- What a machine does, one with more code does too. -/
namespace Ago
theorem bs_ext {C C':Ctx} (h1 : ∀ f fn, C.code f=some fn→C'.code f=some fn) (h2 : ∀ f a H v H', C.prim f a H v H'→C'.prim f a H v H') (h3 : ∀ f t v, C.pprim f t v→C'.pprim f t v) {j:J} (h:BS C j):BS C' j:=by
  induction h with
  | prim h=>exact .prim (h2 _ _ _ _ _ h)
  | pprim h=>exact .pprim (h3 _ _ _ h)
  | nil s=>exact .nil s
  | pass hw _ ih=>exact .pass hw ih
  | pure hw ho hv _ ih=>exact .pure hw ho hv ih
  | read hw ho hv _ ih=>exact .read hw ho hv ih
  | new hw ho hv _ ih=>exact .new hw ho hv ih
  | newAt hw ho hv hf _ ih=>exact .newAt hw ho hv hf ih
  | eff hw ho hv _ ih=>exact .eff hw ho hv ih
  | call hw ho _ _ ihv ih=>exact .call hw ho ihv ih
  | pcall hw ho ha _ _ ihr ih=>exact .pcall hw ho ha ihr ih
  | callv hw ho ha _ _ ihv ih=>exact .callv hw ho ha ihv ih
  | skip s=>exact .skip s
  | ops _ ih=>exact .ops ih
  | draw hne _ ih=>exact .draw hne ih
  | seq _ _ ih1 ih2=>exact .seq ih1 ih2
  | seqE _ he ih=>exact .seqE ih he
  | condT hx _ ih=>exact .condT hx ih
  | condF hx _ ih=>exact .condF hx ih
  | block _ ih=>exact .block ih
  | scope _ ih=>exact .scope ih
  | loop _ _ ih1 ih2=>exact .loop ih1 ih2
  | loopE _ he ih=>exact .loopE ih he
  | exit id s=>exact .exit id s
  | ret s=>exact .ret s
  | run hf _ he hr ih=>exact .run (by rw[h1]; exact hf) ih he hr
  | prun hf _ he hr hv ih=>exact .prun (by rw[h1]; exact hf) ih he hr hv
end Ago
/- Goals that nobody unfolds; loops whose continuation has a name in the rounds. -/
namespace Ago
/-- A goal that is not unfolded. -/
structure Hid (p:Prop):Prop where
  out:p
section
variable {R:Nat→List AV→Heap→AV→Heap→Prop} {PR:Nat→List AV→AV→Prop}
theorem loop_ofH {α:Type} {live:List Nat} {b:ACode} {Q:Ex→St→Prop} {s:St} (st:α→St) (Inv:α→Prop) (μ:α→Nat) (a0:α) (h0:s.norm live=st a0) (hi:Inv a0)
    (round : ∀ Q':Ex→St→Prop, (∀ e t, Q e t→Q' e t)→∀ a, Inv a→Hid (aw R PR b (awThen (fun t=>∃ a', t.norm live=st a'∧Inv a'∧μ a'<μ a) Q') (st a))) (hz:hintsOf live=[]:=by rfl) : @awLoopI live s ⟨R, PR, b, Q⟩:=
  loop_of st Inv μ a0 h0 hi (fun a ha=>(round Q (fun _ _ h=>h) a ha).out) hz
theorem loop_hdH {α:Type} {live:List Nat} {b:ACode} {Q:Ex→St→Prop} {s:St} (st:α→St) (Inv:α→Prop) (μ:α→Nat) (a0:α) (h0:s.head live=st a0) (hi:Inv a0)
    (round : ∀ Q':Ex→St→Prop, (∀ e t, Q e t→Q' e t)→∀ a, Inv a→Hid (aw R PR b (awThen (fun t=>∃ a', t.head live=st a'∧Inv a'∧μ a'<μ a) Q') (st a))) : @awLoopI live s ⟨R, PR, b, Q⟩:=
  loop_hd st Inv μ a0 h0 hi fun a ha=>(round Q (fun _ _ h=>h) a ha).out
end
end Ago

/-! ### The splits, by one word -/
namespace Ago
class Spl (p:Prop) (a b:outParam Prop):Prop where
  go:a→b→p
theorem spl {p a b:Prop} [s:Spl p a b] (h1:a) (h2:b):p:=s.go h1 h2
section
variable {p:Prop} [Decidable p] {A B:Prop} {a b:Int} {c:Bool}
instance:Spl (@onBoolI (.bool c) ⟨A⟩ ⟨B⟩) (c=true→A) (c=false→B):=⟨boolB⟩
instance:Spl (@onBoolI (.bool (!c)) ⟨A⟩ ⟨B⟩) (c=false→A) (c=true→B):=⟨boolNB⟩
instance:Spl (@onBoolI (.bool (a != b)) ⟨A⟩ ⟨B⟩) (¬ a=b→A) (a=b→B):=⟨boolN⟩
instance:Spl (@onBoolI (.bool (a == b)) ⟨A⟩ ⟨B⟩) (a=b→A) (¬ a=b→B):=⟨boolE⟩
instance:Spl (@onBoolI (.bool (decide p)) ⟨A⟩ ⟨B⟩) (p→A) (¬ p→B):=⟨boolD⟩
instance:Spl (@onWantI (some (c == true)) ⟨A⟩ ⟨B⟩) (c=true→A) (c=false→B):=⟨wantBt⟩
instance:Spl (@onWantI (some (c == false)) ⟨A⟩ ⟨B⟩) (c=false→A) (c=true→B):=⟨wantBf⟩
instance:Spl (@onWantI (some ((!c) == true)) ⟨A⟩ ⟨B⟩) (c=false→A) (c=true→B):=⟨wantNBt⟩
instance:Spl (@onWantI (some ((!c) == false)) ⟨A⟩ ⟨B⟩) (c=true→A) (c=false→B):=⟨wantNBf⟩
instance:Spl (@onWantI (some ((a != b) == true)) ⟨A⟩ ⟨B⟩) (¬ a=b→A) (a=b→B):=⟨wantNt⟩
instance:Spl (@onWantI (some ((a != b) == false)) ⟨A⟩ ⟨B⟩) (a=b→A) (¬ a=b→B):=⟨wantNf⟩
instance:Spl (@onWantI (some ((a == b) == true)) ⟨A⟩ ⟨B⟩) (a=b→A) (¬ a=b→B):=⟨wantEt⟩
instance:Spl (@onWantI (some ((a == b) == false)) ⟨A⟩ ⟨B⟩) (¬ a=b→A) (a=b→B):=⟨wantEf⟩
instance:Spl (@onWantI (some (decide p == true)) ⟨A⟩ ⟨B⟩) (p→A) (¬ p→B):=⟨wantDt⟩
instance:Spl (@onWantI (some (decide p == false)) ⟨A⟩ ⟨B⟩) (¬ p→A) (p→B):=⟨wantDf⟩
end
end Ago
