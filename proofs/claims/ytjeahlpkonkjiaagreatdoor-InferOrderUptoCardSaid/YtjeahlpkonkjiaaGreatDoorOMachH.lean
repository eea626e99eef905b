/- Steps of the model draw no less: of a call that a contract tells,the world behind it has drawn no less. -/
import Derived.Test.YtjeahlpkonkjiaaGreatDoorOMachC
import Derived.Calls
import Derived.RunT
import Derived.StepT
import Derived.Test.YtjeahlpkonkjiaaGreatDoorOMachE
import Derived.Test.YtjeahlpkonkjiaaGreatDoorOMachD
import Derived.Shelf.SlSortCmp.NoneTotal
import Derived.Test.YtjeahlpkonkjiaaGreatDoorOMachG
import Derived.Shelf.Small.Strs
import Derived.Shelf.SortM.Plain
import Derived.Shelf.SortM.SortNone
import Derived.Shelf.Strings.Repeat
set_option linter.unusedSimpArgs false
set_option linter.unusedVariables false
namespace Ago
open Go
def sDr (n:Nat):Stepped→Prop
 | .next m=>n≤m.world.drawn
 | .ended _ _=>True
def gDr (n:Nat):GStep→Prop
 | .go _ w _ | .comm _ _ _ _ w _ | .spawn _ _ w _ | .count _ w _ | .timer _ _ w _ | .alone _ _ w _ | .newcoro _ _ _ w _ | .coroswitch _ _ _ w _ | .collect _ w _ | .watch _ w _=>n≤w.drawn
 | .ended _ _ _=>True
theorem q22 {n:Nat} (es:Array Event) (s:GStep) (h:gDr n s):gDr n (GStep.after es s):=by
 cases s<;>exact h
theorem q3D {α:Type} {P:Program} (s:Sem α) (w:World) (es es':Array Event) {a:α} {w':World} (h:s.runT P w es=(.ok a w',es')):w.drawn≤w'.drawn:=
 q0d s w (by rw[←Sem.runT_fst P s w es,h])

def rDr (n:Nat) {α:Type}:Result α→Prop
 | .ok _ w=>n≤w.drawn
 | .halt _ w=>n≤w.drawn
theorem qkr {α:Type} {P:Program} (s:Sem α) : ∀ (w:World),rDr w.drawn (s.run P w):=by
 have le : ∀ {n m:Nat} {r:Result α},n≤m→rDr m r→rDr n r:=by
  intro n m r h k
  cases r<;>exact KZ h k
 induction s with
 | pure a=>intro w; exact Ko _
 | load m a k ih=>
  intro w
  simp only[Sem.run]
  split
  ·exact ih _ _
  ·split
   ·exact ih _ _
   ·exact Ko _
 | store m a v k ih=>
  intro w
  have fin:rDr w.drawn (match w.cell? a with
   | some _ => if w.frozen? a then Result.halt (.unsupported (.unsafePointer "a write to bytes that a string shares")) w else k.run P (w.setCell a v)
   | none=>match w.farStore P a v (m == Mode.atomic) with
    | .ok (w,_)=>k.run P w
    | .error h=>.halt h w):=by
   split
   ·split
    ·exact Ko _
    ·exact ih (w.setCell a v)
   ·split
    ·rename_i e
     exact le (Nat.le_of_eq (q5V e).symm) (ih _)
    ·exact Ko _
  cases v with
  | agg _=>simp only[Sem.run]; exact Ko _
  | tuple _=>simp only[Sem.run]; exact Ko _
  | _=>
   simp only[Sem.run]
   exact fin
 | new o k ih=>
  intro w
  simp only[Sem.run]
  exact ih _ _
 | shape r k ih=>
  intro w
  simp only[Sem.run]
  exact ih _ _
 | freeze a n k ih=>
  intro w
  simp only[Sem.run]
  refine le ?_ (ih _)
  unfold World.freeze
  split<;>exact Ko _
 | frozen a k ih=>
  intro w
  simp only[Sem.run]
  exact ih _ _
 | getObj r k ih=>
  intro w
  simp only[Sem.run]
  split
  ·exact Ko _
  ·exact ih _ _
  ·exact Ko _
 | setObj r o k ih=>
  intro w
  simp only[Sem.run]
  split
  ·exact Ko _
  ·exact ih _
  ·exact Ko _
 | choose q k ih=>
  intro w
  simp only[Sem.run]
  split
  ·exact ih _ _
  ·exact le (Nat.le_succ _) (ih _ _)
 | sys c k ih=>
  intro w
  simp only[Sem.run]
  exact le (qc5 c w) (ih _ _)
 | program k ih=>
  intro w
  simp only[Sem.run]
  exact ih _ _
 | mark m k ih=>
  intro w
  simp only[Sem.run]
  exact ih _
 | halt e=>
  intro w
  simp only[Sem.run]
  exact Ko _
theorem q31 {α:Type} {P:Program} (s:Sem α) (w:World) (es es':Array Event) {e:Halt} {w':World} (h:s.runT P w es=(.halt e w',es')):w.drawn≤w'.drawn:=by
 have:=qkr (P:=P) s w
 rw[←Sem.runT_fst P s w es,h] at this
 exact this
theorem q0s {α:Type} {P:Program} (s:Sem α) (w:World) {e:Halt} {w':World} (h:s.run P w = .halt e w'):w.drawn≤w'.drawn:=by
 have:=qkr (P:=P) s w
 rw[h] at this
 exact this
theorem q7c {α:Type} {P:Program} {s:Sem α} {w:World} {es es':Array Event} {a:α} {w':World} (h:(s.run P w,es)=(.ok a w',es')):w.drawn≤w'.drawn:=q0d s w (Prod.mk.inj h).1
theorem q4w {α:Type} {P:Program} {s:Sem α} {w:World} {es es':Array Event} {e:Halt} {w':World} (h:(s.run P w,es)=(.halt e w',es')):w.drawn≤w'.drawn:=q0s s w (Prod.mk.inj h).1
theorem qqE {α:Type} {n:Nat} {o:Option α} {a:GStep} {f:α→GStep} (h:gDr n a) (k : ∀ x,gDr n (f x)):gDr n (o.elim a f):=by
 cases o
 ·exact h
 ·exact k _
theorem q2l {n m:Nat} (h:n≤m) {s:GStep} (k:gDr m s):gDr n s:=by
 cases s<;>first | exact trivial | exact KZ h k
theorem qan {n m:Nat} (h:n≤m) {s:Stepped} (k:sDr m s):sDr n s:=by
 cases s<;>first | exact trivial | exact KZ h k
theorem q43 (fr:Frame) (a:List ByteArray) (m:String) (b:Bool) (w:World):gDr w.drawn (dieOf fr a m b w):=Ko _
theorem qgI (w:World) (fd:Nat) (t:ByteArray) (o:Outcome) (n:Nat):gDr n (endWith w fd t o):=by
 unfold endWith
 simp only[]
 repeat' first
  | exact trivial
  | exact Ko _
  | exact q0d _ _ (by assumption)
  | exact q0s _ _ (by assumption)
  | exact q3D _ _ _ _ (by assumption)
  | exact q31 _ _ _ _ (by assumption)
  | (have h:=q0d _ _ (by assumption); exact h)
  | exact q7c (by assumption)
  | exact q4w (by assumption)
  | refine q22 _ _ ?_
  | split
theorem q2k (p:Program) (fr:Frame) (v:Value) (w:World):gDr w.drawn (endPrinting p fr v w):=by
 unfold endPrinting
 simp only[]
 repeat' first
  | exact trivial
  | exact Ko _
  | exact q0d _ _ (by assumption)
  | exact q0s _ _ (by assumption)
  | exact q3D _ _ _ _ (by assumption)
  | exact q31 _ _ _ _ (by assumption)
  | (have h:=q0d _ _ (by assumption); exact h)
  | exact q7c (by assumption)
  | exact q4w (by assumption)
  | refine q22 _ _ ?_
  | split
theorem q4T (p:Program) (fr:Frame) (c:List Frame) (d:Option Dying) (m:String) (w:World):gDr w.drawn (endFatal p fr c d m w):=by
 unfold endFatal
 simp only[]
 repeat' first
  | exact trivial
  | exact Ko _
  | exact q0d _ _ (by assumption)
  | exact q0s _ _ (by assumption)
  | exact q3D _ _ _ _ (by assumption)
  | exact q31 _ _ _ _ (by assumption)
  | (have h:=q0d _ _ (by assumption); exact h)
  | exact q7c (by assumption)
  | exact q4w (by assumption)
  | refine q22 _ _ ?_
  | split
theorem qhc (p:Program) (fr:Frame) (d:Dying) (f:Fatal) (w:World):gDr w.drawn (writeOn p fr d f w):=by
 unfold writeOn
 simp only[Sem.runT_eq]
 repeat' first
  | exact trivial
  | exact Ko _
  | exact q0d _ _ (by assumption)
  | exact q0s _ _ (by assumption)
  | exact q3D _ _ _ _ (by assumption)
  | exact q31 _ _ _ _ (by assumption)
  | (have h:=q0d _ _ (by assumption); exact h)
  | exact q7c (by assumption)
  | exact q4w (by assumption)
  | refine q22 _ _ ?_
  | split
theorem q2y (p:Program) (main:Bool) (fr:Frame) (callers:List Frame) (dying:Option Dying) (v:Value) (w:World):gDr w.drawn (doReturn p main fr callers dying v w):=by
 unfold doReturn
 simp only[]
 repeat' first
  | exact trivial
  | exact Ko _
  | exact q0d _ _ (by assumption)
  | exact q0s _ _ (by assumption)
  | exact q3D _ _ _ _ (by assumption)
  | exact q31 _ _ _ _ (by assumption)
  | (have h:=q0d _ _ (by assumption); exact h)
  | exact q7c (by assumption)
  | exact q4w (by assumption)
  | refine q22 _ _ ?_
  | split
theorem qsG (p:Program) (fr:Frame) (d:Dying) (w:World):gDr w.drawn (die p fr d w):=by
 unfold die
 simp only[Sem.runT_eq]
 repeat' first
  | exact trivial
  | exact Ko _
  | exact qhc ..
  | exact qgI ..
  | exact q0d _ _ (by assumption)
  | exact q0s _ _ (by assumption)
  | exact q2l (q0d _ _ (by assumption)) (q2k ..)
  | exact q2l (q0s _ _ (by assumption)) (q2k ..)
  | exact q2l (q0s _ _ (by assumption)) (q4T ..)
  | exact q2l (q0s _ _ (by assumption)) (q43 ..)
  | refine q22 _ _ ?_
  | split
theorem qbQ (p:Program) (fr:Frame) (callers:List Frame) (dying:Option Dying) (g:Nat) (w:World):gDr w.drawn (early p fr callers dying g w):=by
 unfold early
 simp only[]
 repeat' first
  | exact trivial
  | exact Ko _
  | exact q0d _ _ (by assumption)
  | exact q0s _ _ (by assumption)
  | exact q3D _ _ _ _ (by assumption)
  | exact q31 _ _ _ _ (by assumption)
  | (have h:=q0d _ _ (by assumption); exact h)
  | exact q7c (by assumption)
  | exact q4w (by assumption)
  | refine q22 _ _ ?_
  | split
theorem q3N (p:Program) (fr:Frame) (callers:List Frame) (dying:Option Dying) (d:Deferred) (w:World):gDr w.drawn (callDeferred p fr callers dying d w):=by
 unfold callDeferred
 simp only[Sem.runT_eq]
 repeat' first
  | exact trivial
  | exact Ko _
  | exact q2k ..
  | exact q2y ..
  | exact q3N ..
  | exact q0d _ _ (by assumption)
  | exact q0s _ _ (by assumption)
  | exact q2l (q0d _ _ (by assumption)) (q2y ..)
  | exact q2l (q0d _ _ (by assumption)) (q43 ..)
  | exact q2l (q0s _ _ (by assumption)) (q4T ..)
  | exact q2l (q0s _ _ (by assumption)) (q43 ..)
  | exact q2l (q0s _ _ (by assumption)) (qbQ ..)
  | refine q22 _ _ ?_
  | split
theorem ql3 (p:Program) (main:Bool) (fr:Frame) (callers:List Frame) (dying:Option Dying) (w:World):gDr w.drawn (unwind p main fr callers dying w):=by
 unfold unwind
 simp only[Sem.runT_eq]
 repeat' first
  | exact trivial
  | exact Ko _
  | exact q2k ..
  | exact q2y ..
  | exact q3N ..
  | exact q0d _ _ (by assumption)
  | exact q0s _ _ (by assumption)
  | exact q2l (q0d _ _ (by assumption)) (q2y ..)
  | exact q2l (q0d _ _ (by assumption)) (q43 ..)
  | exact q2l (q0s _ _ (by assumption)) (q4T ..)
  | exact q2l (q0s _ _ (by assumption)) (q43 ..)
  | exact q2l (q0s _ _ (by assumption)) (qbQ ..)
  | refine q22 _ _ ?_
  | split
theorem qb6 (p:Program) (listen:Bool) (fr:Frame) (callers:List Frame) (dying:Option Dying) (s:Sem Next) (w:World):gDr w.drawn (stepG.apply p listen fr callers dying s w):=by
 unfold stepG.apply
 cases listen<;>simp only[Sem.runT_eq,Ke,if_true,if_false]
 all_goals
  repeat' first
   | exact trivial
   | exact Ko _
   | exact q2k ..
   | exact q2y ..
   | exact q3N ..
   | exact q0d _ _ (by assumption)
   | exact q0s _ _ (by assumption)
   | exact q2l (q0d _ _ (by assumption)) (q2y ..)
   | exact q2l (q0d _ _ (by assumption)) (q43 ..)
   | exact q2l (q0s _ _ (by assumption)) (q4T ..)
   | exact q2l (q0s _ _ (by assumption)) (q43 ..)
   | exact q2l (q0s _ _ (by assumption)) (qbQ ..)
   | refine q22 _ _ ?_
   | split
theorem qqV (p:Program) (listen:Bool) (fr:Frame) (callers:List Frame) (dying:Option Dying) (w:World):gDr w.drawn (stepG.oper p listen fr callers dying w):=by
 unfold stepG.oper
 repeat' first
  | exact trivial
  | exact qb6 ..
  | split
theorem qqX (p:Program) (main listen:Bool) (fr:Frame) (callers:List Frame) (dying:Option Dying) (w:World):gDr w.drawn (stepG.exec p main listen fr callers dying w):=by
 unfold stepG.exec
 simp only[Sem.runT_eq]
 repeat' first
  | exact trivial
  | exact Ko _
  | exact qb6 ..
  | exact qqV ..
  | exact q0d _ _ (by assumption)
  | exact q0s _ _ (by assumption)
  | exact q2l (q0d _ _ (by assumption)) (q2y ..)
  | exact q2l (q0d _ _ (by assumption)) (qb6 ..)
  | refine qqE ?_ (fun _=>?_)
  | refine q22 _ _ ?_
  | split
theorem qmA (p:Program) (main:Bool) (g:Goroutine) (w:World) (listen:Bool):gDr w.drawn (stepG p main g w listen):=by
 unfold stepG
 simp only[]
 repeat' first
  | exact qsG ..
  | exact qqX ..
  | exact ql3 ..
  | split
theorem qcU {rest:Rest} {cases:Array CommCase} {w w':World} (h:waitingAt rest cases w=some w'):w.drawn≤w'.drawn:=by
 unfold waitingAt at h
 repeat' first
  | (simp at h; done)
  | (cases h; exact Ko _)
  | split at h
theorem qnm {fr:Frame} {m:String} {w w':World} {g:Goroutine} {es:Array Event} (h:endThrow fr m w = .go g w' es):w.drawn≤w'.drawn:=by
 have:=q43 fr [] m false w
 rw[show dieOf fr [] m false w=endThrow fr m w from rfl,h] at this
 exact this
theorem qa6 (p:Program) (rest:Rest) (gs:Array Goroutine) (i:Nat) (g:Goroutine) (cases:Array CommCase) (blocking:Bool) (shape:CommShape) (w:World):sDr w.drawn (communicate p rest gs i g cases blocking shape w).1:=by
 unfold communicate
 simp only[]
 repeat' first
  | exact trivial
  | exact Ko _
  | exact q0d _ _ (by assumption)
  | exact q0s _ _ (by assumption)
  | (have h:=q0d _ _ (by assumption); exact h)
  | exact qcU (by assumption)
  | (have h:=q0d _ _ (by assumption); exact KZ (q0d _ _ (by assumption)) h)
  | exact KZ (q0d _ _ (by assumption)) (q0s _ _ (by assumption))
  | exact KZ (q0d _ _ (by assumption)) (q0d _ _ (by assumption))
  | split
theorem qju (p:Program) (gs:Array Goroutine) (rest:Rest) (w:World):sDr w.drawn (look p gs rest w):=by
 unfold look
 simp only[]
 repeat' first
  | exact trivial
  | exact Ko _
  | exact q0d _ _ (by assumption)
  | (have h:=q0d _ _ (by assumption); exact h)
  | split
theorem qne (p:Program) (m:Machine) (k:Nat):sDr m.world.drawn (serve p m k):=by
 unfold serve
 simp only[]
 repeat' first
  | exact trivial
  | exact Ko _
  | split
theorem qnu (w:World) (c:Nat):(drain w c).2.drawn=w.drawn:=by
 unfold drain
 split<;>rfl
theorem qjo (m:Machine) (k:Nat) (t:Timer) (a b:Nat):(retime m k t a b).2.world.drawn=m.world.drawn:=by
 unfold retime
 cases t.chan with
 | none=>rfl
 | some c=>exact qnu m.world c
theorem qlb {m m':Machine} {var:Addr} (h:timerOp.opened m var=some m'):m'.world.drawn=m.world.drawn:=by
 unfold timerOp.opened at h
 repeat' first
  | (simp at h; done)
  | (cases h; rfl)
  | split at h
theorem qhb (m:Machine) (op:TimerOp) {v:Value} {m':Machine} (h:timerOp m op = .ok (v,m')):m'.world.drawn=m.world.drawn:=by
 unfold timerOp at h
 simp only[] at h
 repeat' first
  | (simp at h; done)
  | (simp only[Except.ok.injEq,Vg] at h; obtain ⟨_,rfl⟩:=h; rfl)
  | (unfold timerOp.named at h)
  | (simp only[Except.ok.injEq] at h; have:=congrArg (fun x=>x.2.world.drawn) h; simp only[qjo] at this; first | exact this.symm | exact this.symm.trans (qlb (by assumption)))
  | split at h
theorem qww (p:Program) (m:Machine) (i:Nat) (b:Bool):sDr m.world.drawn (runT p m i b).1:=by
 simp only[runT]
 generalize m.gs.swapAt! _ _=gg
 have hs:=qmA p (i == 0) gg.1 m.world b
 revert hs
 generalize stepG p _ gg.1 m.world b=s
 intro hs
 cases s<;>simp only[]
 all_goals first
  | exact trivial
  | exact hs
  | exact qan hs (qa6 ..)
  | exact qan hs (qju ..)
  | (
   repeat' first
    | exact trivial
    | exact hs
    | (have h:=qhb _ _ (by assumption); exact KZ hs (Nat.le_of_eq h.symm))
    | exact KZ hs (qnm (by assumption))
    | split)
theorem qhN (m:Machine) (t:Nat):(m.advanceTo t).world.drawn=m.world.drawn:=rfl
def mDr (n:Nat):Move→Prop
 | .goroutine m _=>n≤m.world.drawn
 | .machine s _=>sDr n s
theorem qos {n m:Nat} (h:n≤m) {s:Move} (k:mDr m s):mDr n s:=by
 cases s
 ·exact KZ h k
 ·exact qan h k
theorem qbl (p:Program) (m:Machine):mDr m.world.drawn (askOn p m):=by
 unfold askOn
 simp only[]
 repeat' first
  | exact trivial
  | exact Ko _
  | exact q0d _ _ (by assumption)
  | (have h:=q0d _ _ (by assumption); exact h)
  | (have h:=q0d _ _ (by assumption); exact KZ (q0d _ _ (by assumption)) h)
  | exact qan (q0d _ _ (by assumption)) (qne p { m with world:=_ } _)
  | simp only[qhN]
  | refine KZ ?_ (q0d _ _ (by assumption))
  | split
theorem qoU (p:Program) (m:Machine):mDr m.world.drawn (ask p m):=by
 unfold ask
 split
 ·split
  ·exact trivial
  ·have h:=q0d _ _ (by assumption)
   rename_i w _
   have k:=qju p m.gs m.rest w
   split
   ·rename_i heq
    rw[heq] at k
    exact qos (KZ h k) (qbl ..)
   ·exact qan h k
  ·have h:=q0d _ _ (by assumption)
   exact qos h (qbl p { m with world:=_ })
 ·exact qbl ..
theorem qr8 (p:Program) (m:Machine):mDr m.world.drawn (move p m):=by
 unfold move
 repeat' first
  | exact trivial
  | exact Ko _
  | exact qoU p m
  | exact qoU p { m with rest:=_ }
  | split
theorem qqd (p:Program) (m:Machine):sDr m.world.drawn (step p m):=by
 have h:=qr8 p m
 unfold step stepT
 cases hm:move p m with
 | goroutine m' i=>
  rw[hm] at h
  exact qan h (qww p m' i true)
 | machine s ops=>
  rw[hm] at h
  exact h
theorem qnP {p:Program} {m m':Machine} (h:Steps p m m'):m.world.drawn≤m'.world.drawn:=by
 obtain ⟨n,hn⟩:=h
 induction n generalizing m with
 | zero=>
  simp only[runN] at hn
  cases hn
  exact Ko _
 | succ n ih=>
  simp only[runN] at hn
  have k:=qqd p m
  cases hs:step p m with
  | next m1=>
   rw[hs] at hn k
   exact KZ k (ih hn)
  | ended o w=>
   rw[hs] at hn
   cases hn
theorem qiR {P:Program} {f:FuncId} {args:Array Value} {w:World} {B:Nat} {v:Value} (h:Calls P f args w fun e w'=>e = .returned v∧RowKit.Below B w w') :
  Calls P f args w fun e w'=>e = .returned v∧Bel B w w':=by
 intro cs
 obtain ⟨e,w',fr,⟨rfl,hB⟩,hc,hf,hl⟩:=h cs
 exact ⟨_,w',fr,⟨rfl,hB,qnP hc⟩,hc,hf,hl⟩
end Ago
namespace Ago

structure OrdOn (c:AV→AV→Int) (els:List AV):Prop where
 irrefl : ∀ x,x∈els→¬ c x x<0
 trans : ∀ x y z,x∈els→y∈els→z∈els→c x y<0→c y z<0→c x z<0
 total : ∀ x y,x∈els→y∈els→¬ c x y<0→¬ c y x<0→x=y

theorem qjg {C C':Ctx} (h1:C'.code=C.code) (h2 : ∀ f a H v H',C.prim f a H v H'→C'.prim f a H v H') (h3 : ∀ f t v,C.pprim f t v→C'.pprim f t v) {j:J} (h:BS C j):BS C' j:=by
 induction h with
 | prim h=>exact .prim (h2 _ _ _ _ _ h)
 | pprim h=>exact .pprim (h3 _ _ _ h)
 | nil s=>exact .nil s
 | pass hw _ ih=>exact .pass hw ih
 | pure hw ho hv _ ih=>exact .pure hw ho hv ih
 | read hw ho hv _ ih=>exact .read hw ho hv ih
 | new hw ho hv _ ih=>exact .new hw ho hv ih
 | newAt hw ho hv hf _ ih=>exact .newAt hw ho hv hf ih
 | eff hw ho hv _ ih=>exact .eff hw ho hv ih
 | call hw ho _ _ ihv ih=>exact .call hw ho ihv ih
 | pcall hw ho ha _ _ ihr ih=>exact .pcall hw ho ha ihr ih
 | callv hw ho ha _ _ ihv ih=>exact .callv hw ho ha ihv ih
 | skip s=>exact .skip s
 | ops _ ih=>exact .ops ih
 | draw hne _ ih=>exact .draw hne ih
 | seq _ _ ih1 ih2=>exact .seq ih1 ih2
 | seqE _ he ih=>exact .seqE ih he
 | condT hx _ ih=>exact .condT hx ih
 | condF hx _ ih=>exact .condF hx ih
 | block _ ih=>exact .block ih
 | scope _ ih=>exact .scope ih
 | loop _ _ ih1 ih2=>exact .loop ih1 ih2
 | loopE _ he ih=>exact .loopE ih he
 | exit id s=>exact .exit id s
 | ret s=>exact .ret s
 | run hf _ he hr ih=>exact .run (by rw[h1]; exact hf) ih he hr
 | prun hf _ he hr hv ih=>exact .prun (by rw[h1]; exact hf) ih he hr hv

end Ago
namespace Ago
open Go Go.Proofs Go.Sort Go.Shelf
variable {uT:Unit} [TabC uT]

theorem q92 (b:Nat) : ∀ (vs:List Value) (o:Nat) (w:World),w.setCells b o vs=mapBlock w b fun c=>c.mapIdx fun k x=>if o≤k∧k<o+vs.length then (vs[k-o]?).getD x else x
 | [],o,w=>by
  symm
  refine mapBlock_id w b _ fun c e fr _=>?_
  apply Array.ext_getElem?
  intro k
  rw[Array.getElem?_mapIdx]
  cases c[k]? with
  | none=>rfl
  | some y=>
   rw[KI,if_neg (by simp only[Kg]; omega)]
 | v::vs,o,w=>by
  rw[World.setCells,q92 b vs (o+1),setCell_eq,mapBlock_mapBlock]
  refine mapBlock_congr _ _ _ _ fun c _ _ _=>?_
  apply Array.ext_getElem?
  intro k
  rw[Array.getElem?_mapIdx,Array.getElem?_mapIdx,Array.getElem?_setIfInBounds]
  by_cases hk:o=k
  ·subst hk
   rw[if_pos rfl]
   by_cases hc:o<c.size
   ·rw[if_pos hc,KD hc,KI,KI,if_neg (by omega),if_pos (by simp)]
    simp
   ·rw[if_neg hc,Array.getElem?_eq_none (by omega)]
    rfl
  ·rw[if_neg hk]
   cases c[k]? with
   | none=>rfl
   | some y=>
    rw[KI,KI]
    by_cases h1:o+1≤k∧k<o+1+vs.length
    ·rw[if_pos h1,if_pos (by simp only[Kb]; omega),show k-o=(k-(o+1))+1 by omega,List.getElem?_cons_succ]
    ·rw[if_neg h1,if_neg (by simp only[Kb]; omega)]

theorem qc4 {α:Type} [Inhabited α] (enc:α→Value) (w:World) (blk off:Nat) (d:Array α):putRow enc w blk off d=w.setCells blk off (d.toList.map enc):=by
 rw[q92]
 unfold putRow
 refine mapBlock_congr _ _ _ _ fun c _ _ _=>?_
 apply Array.ext_getElem?
 intro k
 unfold putCells
 rw[Array.getElem?_mapIdx,Array.getElem?_mapIdx]
 cases c[k]? with
 | none=>rfl
 | some y=>
  rw[KI,KI]
  by_cases h:off≤k∧k<off+d.size
  ·rw[if_pos h,if_pos (by simpa using h)]
   have hk:k-off<d.size:=by omega
   rw[KB,VJ,KD hk,KI,Vc,getElem!_pos d _ hk]
  ·rw[if_neg h,if_neg (by simpa using h)]

theorem q5S {α:Type} [Inhabited α] (enc:α→Value) (w:World) (blk off m:Nat) (dk:Array α) (os:Array Obj) {b:Nat} (hb:b<w.heap.size):(sortWorld enc w blk off m dk os).heap[b]?=(w.setCells blk off (dk.toList.map enc)).heap[b]?:=by
 rw[←qc4]
 show ((putRow enc (Sort.ahead w m) blk off dk).heap++os)[b]?=_
 have:b<(putRow enc (Sort.ahead w m) blk off dk).heap.size:=by rw[Go.Sort.size_putRow]; exact hb
 rw[Array.getElem?_append_left this]
 rfl

theorem qmM {W w':World} (h:Bel W.heap.size W w') : ∃ q os',w'=grow (W.drewN q) os':=by
 refine ⟨w'.drawn-W.drawn,w'.heap.extract W.heap.size w'.heap.size,?_⟩
 have h1:w'.heap=W.heap++w'.heap.extract W.heap.size w'.heap.size:=by
  apply Array.ext_getElem?
  intro k
  by_cases hk:k<W.heap.size
  ·rw[Array.getElem?_append_left hk,h.block k hk]
  ·rw[Array.getElem?_append_right (by omega),Array.getElem?_extract]
   by_cases hk2:k<w'.heap.size
   ·rw[if_pos (by omega)]
    congr 1
    omega
   ·rw[if_neg (by omega),Array.getElem?_eq_none (by omega)]
 have h2:w'.drawn=W.drawn+(w'.drawn-W.drawn):=by have:=h.drawn; omega
 have k1:=h.os
 have k2:=h.tape
 have k3:=h.output
 show w'={ heap:=W.heap++w'.heap.extract W.heap.size w'.heap.size,tape:=W.tape,drawn:=W.drawn+(w'.drawn-W.drawn),os:=W.os,output:=W.output }
 obtain ⟨a,b,c,d,e⟩:=w'
 simp only at h1 h2 k1 k2 k3 ⊢
 rw[←h1,←h2,k1,k2,k3]

section
variable {P:Program} {fid:FuncId→Option Nat} {pf:Nat→Bool}

end

end Ago
namespace Ago
open Go Go.Proofs Go.Shelf
variable {uT:Unit} [TabC uT]
section
variable {P:Program} {fid:FuncId→Option Nat} {pf:Nat→Bool}
def qnv (P:Program) (fid:FuncId→Option Nat) (f:Nat):Prop:=∀ g,fid g=some f→∃ ρ,Lays.n213 P ρ∧ρ.f 213=g
theorem qjv {f:Nat} (h:qnv P fid f) (a b:List UInt8):q1H P fid f [.str a,.str b] (.int .i64 (Lib.compareBytes a b)):=by
 intro g hg M φ us w hargs hM htb
 obtain ⟨ρ,L,rfl⟩:=h g hg
 obtain ⟨u0,u1,rfl⟩ : ∃ u0 u1,us = #[u0,u1]:=by
  have h1:=hargs.1
  simp at h1
  obtain ⟨l⟩:=us
  match l,h1 with
  | [a,b],_=>exact ⟨a,b,rfl⟩
 have h0:VRel fid M [] φ (.str a) u0:=hargs.head
 have h1:VRel fid M [] φ (.str b) u1:=hargs.tail.head
 cases h0 with
 | str s _ hs=>
  cases h1 with
  | str t _ ht=>
   refine (Any.bytealg_CompareString L s t w).mono fun e w' he=>?_
   obtain ⟨rfl,rfl⟩:=he
   rw[hs,ht]
   exact ⟨_,rfl,M,.int _ _,fun _ _ _ h=>h,fun _ _ _ h _=>h,hM,Bel.refl _ _⟩
end
end Ago
namespace Ago
open Go Go.Proofs Go.Sort Go.Shelf
variable {uT:Unit} [TabC uT]

def q7f (s:ByteArray):Nat→Nat→Nat
 | 0,_=>0
 | k+1,pos=>if pos<s.size then 1+q7f s k (pos+(Utf8.decode s pos).2) else 0
def qec (s:List UInt8):Nat:=q7f ⟨s.toArray⟩ s.length 0

def q7Y (ss:List (List UInt8)):List (List UInt8):=ss.mergeSort fun x y=>decide (x≤y)

def qks (args:List AV) (H:Heap) (v:AV) (H':Heap):Prop:=
 v = .tup []∧((∃ n,args=[.snil n]∧H'=H) ∨
  ∃ r fam H1,∃ ss:List (List UInt8),args=[.sref 1 r 0 ss.length]∧ss≠[]∧ss.length≤lim∧H[r]?=some (.row 1 (ss.map .str) false true fam)∧H.strike r fam 0=some H1∧H'=H1.set r (.row 1 ((q7Y ss).map .str) false true fam))

def q5U (C:Ctx) (cs ln ss:Nat→Bool):Ctx where
 code:=C.code
 prim f args H v H':=C.prim f args H v H'∨(ss f=true∧qks args H v H')
 pprim f ts v:=C.pprim f ts v∨(cs f=true∧∃ a b,ts=[.str a,.str b]∧v = .int .i64 (Lib.compareBytes a b))∨(ln f=true∧∃ s,ts=[.str s]∧s.length≤lim∧v = .int .i64 (qec s:Nat))

theorem qka {C:Ctx} {cs ln ss:Nat→Bool} {f:Nat} {ts:List AV} {v:AV} (h:q0k C f ts v):q0k (q5U C cs ln ss) f ts v:=qjg (C:=C) (C':=q5U C cs ln ss) rfl (fun _ _ _ _ _ h=>Or.inl h) (fun _ _ _ h=>Or.inl h) h
theorem qq7 {C:Ctx} {cs ln ss:Nat→Bool} {f:Nat} (hf:ln f=true) (s:List UInt8) (hs:s.length≤lim):q0k (q5U C cs ln ss) f [.str s] (.int .i64 (qec s:Nat)):=.pprim (Or.inr (Or.inr ⟨hf,s,rfl,hs,rfl⟩))
section
variable {P:Program} {fid:FuncId→Option Nat} {pf:Nat→Bool} {ss:Nat→Bool}
def qq4 (P:Program) (fid:FuncId→Option Nat) (f:Nat):Prop:=∀ g,fid g=some f→∀ (s:ByteArray) (w:World),s.size≤lim→Calls P g #[.string s] w fun e w'=>e = .returned (.int .i64 (qec s.data.toList:Nat))∧Bel w.heap.size w w'
def qkp (P:Program) (fid:FuncId→Option Nat) (f:Nat):Prop:=∀ g,fid g=some f→∃ ρ,SlLaysM.n6 P ρ∧ρ.f 6=g

theorem qpu {f:Nat} (h:qq4 P fid f) (s:List UInt8) (hl:s.length≤lim):q1H P fid f [.str s] (.int .i64 (qec s:Nat)):=by
 intro g hg M φ us w hargs hM htb
 obtain ⟨u0,rfl⟩ : ∃ u0,us = #[u0]:=by
  have h1:=hargs.1
  simp at h1
  obtain ⟨l⟩:=us
  match l,h1 with
  | [a],_=>exact ⟨a,rfl⟩
 have h0:VRel fid M [] φ (.str s) u0:=hargs.head
 cases h0 with
 | str t _ hs=>
  have ht:t.size≤lim:=by
   rw[←hs] at hl
   simpa using hl
  refine (h g hg t w ht).mono fun e w' he=>?_
  obtain ⟨rfl,hb⟩:=he
  rw[hs]
  refine ⟨_,rfl,M,.int _ _,fun _ _ _ h=>h,fun _ _ _ h _=>h,fun b o u hm=>?_,hb⟩
  have h1:=hM b o u hm
  have h2:=World.block_lt_of_cell? w _ h1
  rw[←h1]
  exact RowKit.Below.cell hb.toBelow h2

theorem qkK (hS : ∀ f,ss f=true→qkp P fid f) {f:Nat} {args:List AV} {H H':Heap} {v:AV} (hf:ss f=true) (h:qks args H v H'):SimRun P fid f args H v H':=by
 intro g hg M φ B us w hargs hH hB htb
 obtain ⟨rfl,h⟩:=h
 obtain ⟨ρ,L,rfl⟩:=hS f hf g hg
 obtain ⟨u0,rfl⟩ : ∃ u0,us = #[u0]:=by
  have h1:us.size=1:=by
   have h1:=hargs.1
   rcases h with ⟨n,rfl,_⟩ | ⟨r,fam,H1,ss,rfl,_⟩<;>simpa using h1.symm
  obtain ⟨l⟩:=us
  match l,h1 with
  | [a],_=>exact ⟨a,rfl⟩
 rcases h with ⟨n,rfl,rfl⟩ | ⟨r,fam,H1,ss,rfl,hne,hlim,hr,hst,rfl⟩
 ·have h0:VRel fid M _ φ (.snil n) u0:=hargs.head
  cases h0 with
  | snil _ a=>
   refine (AnyM.slices_Sort_string_none (P:=P) (ρ:=ρ) L a 0 w).mono fun e w' he=>?_
   obtain ⟨rfl,rfl⟩:=he
   exact ⟨_,rfl,M,φ,q47,hH,Ext.refl ..⟩
 ·have h0:VRel fid M H φ (.sref 1 r 0 ss.length) u0:=hargs.head
  have hpos:0<ss.length:=Ve.2 hne
  have R:=hH.row _ _ _ _ _ _ hr
  obtain ⟨cs,t,fr,hc,hsz,hfz,hcell⟩:=R.cells
  cases h0 with
  | sref _ _ _ _ cap a hc0 ha0 hp0 hsl=>
  obtain ⟨_,hsl2⟩:=hsl _ _ _ _ hr
  obtain ⟨rfl,_⟩:=hsl2 (by omega)
  have hblk:(φ r).blk<w.heap.size:=by
   rcases Vx (φ r).blk w.heap.size with h | h
   ·exact h
   ·rw[Array.getElem?_eq_none h] at hc
    cases hc
  have hHolds:Holds encStr w (φ r).blk (φ r).off ss.toArray:=by
   intro j hj
   have hj':j<ss.length:=by simpa using hj
   have hfits:=R.fits
   rw[Ka] at hfits
   refine ⟨?_,q1M hc (hfz _ (by omega))⟩
   rw[q0K hc,getElem!_pos ss.toArray j hj]
   obtain ⟨v,h2,h3⟩:=hcell j (.str ss[j]) 0 (.str ss[j]) (by rw[KB,Kh hj']; rfl) rfl
   cases h3 with
   | str s _ hs=>
    obtain ⟨d⟩:=s
    have:d=ss[j].toArray:=by rw[←hs]
    subst this
    simpa using h2
  have hmain:=AnyM.slices_Sort_string L (φ r).blk (φ r).off cap ss w hHolds hblk (by have:lim=2147483648:=rfl; omega)
  rw[V8,Vu]
  refine hmain.mono fun e w' he=>?_
  obtain ⟨rfl,n,os,rfl⟩:=he
  have hlen:(q7Y ss).length=ss.length:=List.length_mergeSort ..
  have hW:=hH.rewrite (els':=(q7Y ss).map .str) (fl':=true) (p:=0) (us:=(q7Y ss).map encStr) (vs:=(q7Y ss).map .str) hr hst (by rw[Ka,hlen,Ka]; omega) ?_ (by simp [hlen]) ?_ ?_ ?_
  ·rw[Vu] at hW
   obtain ⟨hw1,hw2,hw3⟩:=hW
   have hsz2:(w.setCells (φ r).blk (φ r).off ((q7Y ss).map encStr)).heap.size=w.heap.size:=by simp
   have hkey : ∀ b,b<w.heap.size→(grow (putRow encStr (Sort.ahead w n) (φ r).blk (φ r).off (q7Y ss).toArray) os).heap[b]?=(w.setCells (φ r).blk (φ r).off ((q7Y ss).map encStr)).heap[b]?:=fun b hb=>by
    have:=q5S encStr w (φ r).blk (φ r).off n (q7Y ss).toArray os hb
    simpa [sortWorld] using this
   have hw4:=hw1.world (w':=grow (putRow encStr (Sort.ahead w n) (φ r).blk (φ r).off (q7Y ss).toArray) os) fun b hb=>hkey b (by rw[←hsz2]; exact hb)
   refine ⟨_,rfl,M,φ,q47,hw4,fun _ _ _ h=>h,fun _ _ _ h _=>h,hw2.later,⟨⟨rfl,rfl,rfl,?_,fun k hk=>?_⟩,Nat.le_add_right _ _⟩⟩
   ·show w.heap.size≤((putRow _ (Sort.ahead w n) _ _ _).heap++os).size
    rw[Array.size_append,Go.Sort.size_putRow]
    exact Nat.le_add_right _ _
   ·have:=hkey k (by omega)
    rw[show q7Y ss=ss.mergeSort fun x y=>decide (x≤y) from rfl] at this
    rw[this]
    exact hw3.block k hk
  ·refine ⟨by simp,fun i x v hx hv=>?_⟩
   rw[KB] at hx hv
   cases hdi:(q7Y ss)[i]? with
   | none=>rw[hdi] at hx; cases hx
   | some z=>
    rw[hdi] at hx hv
    cases hx
    cases hv
    exact .str _ _ (by simp)
  ·have hfl : ∀ ys:List (List UInt8),Ago.flat (ys.map .str)=ys.map .str:=by
    intro ys
    induction ys with
    | nil=>rfl
    | cons y ys ih=>rw[Km,Ago.flat,ih]; rfl
   rw[hfl,hfl,Vo,Ka,hlen]
   simp
  ·intro x hx
   obtain ⟨y,_,rfl⟩:=KQ.1 hx
   exact ⟨rfl,rfl⟩
  ·intro _ x hx
   obtain ⟨y,_,rfl⟩:=KQ.1 hx
   rfl
end

theorem qcM {P:Program} {fid:FuncId→Option Nat} {pf:Nat→Bool} {C:Ctx} {cs ln ss:Nat→Bool} (hC:CtxOk P fid pf C) (h1 : ∀ f,cs f=true→C.code f=none∧qnv P fid f∧ln f=false∧∀ ts v,¬ C.pprim f ts v)
  (h2 : ∀ f,ln f=true→C.code f=none∧qq4 P fid f∧cs f=false∧∀ ts v,¬ C.pprim f ts v) (h3 : ∀ f,ss f=true→C.code f=none∧qkp P fid f∧∀ a H v H',¬ C.prim f a H v H'):CtxOk P fid pf (q5U C cs ln ss):=by
 refine ⟨hC.fids,hC.coded,fun f args H v H' hp=>?_,fun f ts v hp=>?_⟩
 ·rcases hp with hp | ⟨hf,hp⟩
  ·obtain ⟨k1,k2,k3⟩:=hC.prim _ _ _ _ _ hp
   refine ⟨k1,k2,fun v2 H2 hp2=>?_⟩
   rcases hp2 with hp2 | ⟨hf,hp2⟩
   ·exact k3 _ _ hp2
   ·exact ((h3 f hf).2.2 _ _ _ _ hp).elim
  ·refine ⟨(h3 f hf).1,qkK (fun f hf=>(h3 f hf).2.1) hf hp,fun v2 H2 hp2=>?_⟩
   rcases hp2 with hp2 | ⟨_,hp2⟩
   ·exact ((h3 f hf).2.2 _ _ _ _ hp2).elim
   ·obtain ⟨rfl,hp⟩:=hp
    obtain ⟨rfl,hp2⟩:=hp2
    refine ⟨rfl,?_⟩
    rcases hp with ⟨n,rfl,rfl⟩ | ⟨r,fam,H1,zs,rfl,_,_,k4,k5,rfl⟩
    ·rcases hp2 with ⟨n',k1,rfl⟩ | ⟨r',fam',H1',zs',k1,_⟩
     ·rfl
     ·simp at k1
    ·rcases hp2 with ⟨n',k1,_⟩ | ⟨r',fam',H1',zs',k1,_,_,j4,j5,rfl⟩
     ·simp at k1
     ·simp only[List.cons.injEq,AV.sref.injEq,and_true,true_and] at k1
      obtain ⟨rfl,_⟩:=k1
      rw[k4] at j4
      simp only[Kn,Blk.row.injEq,true_and] at j4
      obtain ⟨j6,rfl⟩:=j4
      have:zs=zs':=(List.map_inj_right (fun a b h=>by injection h)).1 j6
      subst this
      rw[k5] at j5
      cases j5
      rfl
 ·rcases hp with hp | ⟨hf,a,b,rfl,rfl⟩ | ⟨hf,s,rfl,hsl,rfl⟩
  ·obtain ⟨k1,k2,k3⟩:=hC.pprim _ _ _ hp
   refine ⟨k1,k2,fun v2 hp2=>?_⟩
   rcases hp2 with hp2 | ⟨hf,_⟩ | ⟨hf,_⟩
   ·exact k3 _ hp2
   ·exact ((h1 f hf).2.2.2 _ _ hp).elim
   ·exact ((h2 f hf).2.2.2 _ _ hp).elim
  ·refine ⟨(h1 f hf).1,qjv (h1 f hf).2.1 a b,fun v2 hp2=>?_⟩
   rcases hp2 with hp2 | ⟨_,a',b',k1,rfl⟩ | ⟨hl,_⟩
   ·exact ((h1 f hf).2.2.2 _ _ hp2).elim
   ·cases k1
    rfl
   ·rw[(h1 f hf).2.2.1] at hl
    cases hl
  ·refine ⟨(h2 f hf).1,qpu (h2 f hf).2.1 s hsl,fun v2 hp2=>?_⟩
   rcases hp2 with hp2 | ⟨hl,_⟩ | ⟨_,s',k1,_,rfl⟩
   ·exact ((h2 f hf).2.2.2 _ _ hp2).elim
   ·rw[(h2 f hf).2.2.1] at hl
    cases hl
   ·cases k1
    rfl
end Ago
namespace Ago
open Go Go.Proofs Go.Shelf
variable {uT:Unit} [TabC uT]

def qaL (C:Ctx) (pp:Nat→Option (List AV→Option AV)):Ctx where
 code:=C.code
 prim:=C.prim
 pprim f ts v:=C.pprim f ts v∨∃ F,pp f=some F∧F ts=some v
theorem qcN {C:Ctx} {pp:Nat→Option (List AV→Option AV)} {f:Nat} {ts:List AV} {v:AV} (h:q0k C f ts v):q0k (qaL C pp) f ts v:=qad (C:=C) (C':=qaL C pp) (fun _ _ h=>h) (fun _ _ _ _ _ h=>h) (fun _ _ _ h=>Or.inl h) h
theorem qeT {C:Ctx} {pp:Nat→Option (List AV→Option AV)} {f:Nat} {F:List AV→Option AV} {ts:List AV} {v:AV} (hf:pp f=some F) (h:F ts=some v):q0k (qaL C pp) f ts v:=.pprim (Or.inr ⟨F,hf,h⟩)
section
variable {P:Program} {fid:FuncId→Option Nat} {pf:Nat→Bool}
def qnJ (P:Program) (fid:FuncId→Option Nat) (f:Nat) (F:List AV→Option AV):Prop:=∀ ts v,F ts=some v→q1H P fid f ts v
theorem qii {C:Ctx} {pp:Nat→Option (List AV→Option AV)} (hC:CtxOk P fid pf C) (h : ∀ f F,pp f=some F→C.code f=none∧qnJ P fid f F∧∀ ts v,¬ C.pprim f ts v):CtxOk P fid pf (qaL C pp):=by
 refine ⟨hC.fids,hC.coded,hC.prim,fun f ts v hp=>?_⟩
 rcases hp with hp | ⟨F,hf,hp⟩
 ·obtain ⟨k1,k2,k3⟩:=hC.pprim _ _ _ hp
  refine ⟨k1,k2,fun v2 hp2=>?_⟩
  rcases hp2 with hp2 | ⟨F,hf,_⟩
  ·exact k3 _ hp2
  ·exact ((h f F hf).2.2 _ _ hp).elim
 ·refine ⟨(h f F hf).1,(h f F hf).2.1 ts v hp,fun v2 hp2=>?_⟩
  rcases hp2 with hp2 | ⟨F2,hf2,hp2⟩
  ·exact ((h f F hf).2.2 _ _ hp2).elim
  ·rw[hf] at hf2
   cases hf2
   rw[hp] at hp2
   cases hp2
   rfl

def qrk:List AV→Option AV
 | [.str s,.int .i64 (.ofNat c)]=>if s.length * c≤2147483648∧c≤2147483648 then some (.str (Lib.repeatL s c)) else none
 | _=>none
theorem qiN (s:List UInt8) (c:Nat) (h:s.length * c≤2147483648) (h2:c≤2147483648):qrk [.str s,.int .i64 c]=some (.str (Lib.repeatL s c)):=by
 show (if s.length * c≤2147483648∧c≤2147483648 then some (AV.str (Lib.repeatL s c)) else none)=_
 rw[if_pos ⟨h,h2⟩]
def qxj (P:Program) (fid:FuncId→Option Nat) (f:Nat):Prop:=∀ g,fid g=some f→∃ ρ,Lays.n105 P ρ∧Builder.Extra P ρ∧ρ.f 105=g
theorem qpg {fid:FuncId→Option Nat} {M:Mem} {w w':World} (hM : ∀ b o u,M b o=some u→w.cell? ⟨b,o,none⟩=some u) (hb:Bel w.heap.size w w') : ∀ b o u,M b o=some u→w'.cell? ⟨b,o,none⟩=some u:=fun b o u hm=>by
 have h1:=hM b o u hm
 have h2:=World.block_lt_of_cell? w _ h1
 rw[←h1]
 exact RowKit.Below.cell hb.toBelow h2
theorem qs8 {f:Nat} (h:qxj P fid f):qnJ P fid f qrk:=by
 intro ts v hv g hg M φ us w hargs hM htb
 obtain ⟨ρ,L,X,rfl⟩:=h g hg
 unfold qrk at hv
 split at hv
 ·rename_i s c
  split at hv
  ·rename_i hc
   cases hv
   obtain ⟨u0,u1,rfl⟩ : ∃ u0 u1,us = #[u0,u1]:=by
    have h1:=hargs.1
    simp at h1
    obtain ⟨l⟩:=us
    match l,h1 with
    | [a,b],_=>exact ⟨a,b,rfl⟩
   have h0:VRel fid M [] φ (.str s) u0:=hargs.head
   have h1:VRel fid M [] φ (.int .i64 (Int.ofNat c)) u1:=hargs.tail.head
   cases h0 with
   | str t _ ht=>
    cases h1 with
    | int _ _=>
     have hl:t.size=s.length:=by
      rw[←ht]
      simp
     refine (qiR (Any.strings_Repeat L X t c w (by omega) (by rw[hl]; omega))).mono fun e w' he=>?_
     obtain ⟨rfl,hb⟩:=he
     refine ⟨_,rfl,M,?_,fun _ _ _ h=>h,fun _ _ _ h _=>h,qpg (fid:=fid) hM hb,hb⟩
     exact .str _ _ (by rw[ht])
  ·cases hv
 ·cases hv

def quy:List AV→Option AV
 | [.str a,.str b]=>some (.int .i64 (Lib.compareBytes a b))
 | _=>none
theorem qv1 {f:Nat} (h:qnv P fid f):qnJ P fid f quy:=by
 intro ts v hv
 unfold quy at hv
 split at hv
 ·cases hv
  exact qjv h _ _
 ·cases hv
end
end Ago
namespace Ago
def qf6 (mids:List AOper) (o:List Nat):List AOper:=o.map fun i=>mids.getD i ⟨none,.bad,[],none⟩
section
variable {R:Nat→List AV→Heap→AV→Heap→Prop} {PR:Nat→List AV→AV→Prop}
@[go_sem] theorem qrf (mids:List AOper):qf6 mids []=[]:=(rfl)
@[go_sem] theorem qow (mids:List AOper) (i:Nat) (o:List Nat):qf6 mids (i::o)=mids.getD i ⟨none,.bad,[],none⟩::qf6 mids o:=(rfl)
end
end Ago
namespace Ago
open Go Go.Proofs Go.Sort Go.Shelf
variable {uT:Unit} [TabC uT]

def qlh (so:Nat→Option Nat) (PR:Nat→List AV→AV→Prop) (f:Nat) (args:List AV) (H:Heap) (v:AV) (H':Heap):Prop:=
 ∃ k,so f=some k∧v = .tup []∧((∃ g,args=[.snil k,.fn g []]∧H'=H)∨∃ r g els els' fam c H1,args=[.sref k r 0 els.length,.fn g []]∧els≠[]∧els.length≤lim∧H[r]?=some (.row k els false true fam)∧H.strike r fam 0=some H1∧H'=H1.set r (.row k els' false true fam)∧OrdOn c els ∧
   (∀ x,x∈els→∃ cs,x = .agg cs∧cs.length=k∧cs.all AV.one=true)∧(∀ x y,x∈els→y∈els→PR g [x,y] (.int .i64 (c x y)))∧els.Perm els'∧els'.Pairwise fun x y=>¬ c y x<0)
def q4P (C:Ctx) (so:Nat→Option Nat):Ctx where
 code:=C.code
 prim f args H v H':=C.prim f args H v H'∨qlh so (q0k C) f args H v H'
 pprim:=C.pprim
theorem qf2 {C:Ctx} {so:Nat→Option Nat} {f:Nat} {ts:List AV} {v:AV} (h:q0k C f ts v):q0k (q4P C so) f ts v:=qjg (C:=C) (C':=q4P C so) rfl (fun _ _ _ _ _ h=>Or.inl h) (fun _ _ _ h=>h) h
theorem qk2 {C:Ctx} {so:Nat→Option Nat} {f r g fam k:Nat} {els els':List AV} {H H1:Heap} (c:AV→AV→Int) (hf:so f=some k) (hne:els≠[]) (hl:els.length≤lim) (hr:H[r]?=some (.row k els false true fam)) (hs:H.strike r fam 0=some H1)
  (ho:OrdOn c els) (h1 : ∀ x,x∈els→∃ cs,x = .agg cs∧cs.length=k∧cs.all AV.one=true) (hc : ∀ x y,x∈els→y∈els→q0k C g [x,y] (.int .i64 (c x y))) (hp:els.Perm els') (hpw:els'.Pairwise fun x y=>¬ c y x<0) {n:Nat} (hn:n=els.length) :
  q1u (q4P C so) f [.sref k r 0 n,.fn g []] H (.tup []) (H1.set r (.row k els' false true fam)):=
 .prim (Or.inr ⟨k,hf,rfl,.inr ⟨r,g,els,els',fam,c,H1,by rw[hn],hne,hl,hr,hs,rfl,ho,h1,hc,hp,hpw⟩⟩)
theorem qkf {C:Ctx} {so:Nat→Option Nat} {f g k:Nat} {H:Heap} (hf:so f=some k):q1u (q4P C so) f [.snil k,.fn g []] H (.tup []) H:=.prim (Or.inr ⟨k,hf,rfl,.inl ⟨g,rfl,rfl⟩⟩)

theorem qcG {Q:AV→List Value→Prop} {c:Array Value} {k:Nat} : ∀ (xs:List AV) (s:Nat),(∀ i x,xs[i]?=some x→∃ vs:List Value,vs.length=k∧(∀ j,j<k→c[s+i * k+j]?=vs[j]?)∧Q x vs) →
  ∃ l:List {p:AV × List Value // p.2.length=k∧Q p.1 p.2},l.map (fun p=>p.1.1)=xs∧∀ i p,l[i]?=some p→∀ j,j<k→c[s+i * k+j]?=p.1.2[j]?
 | [],_,_=>⟨[],rfl,fun i p h=>by simp at h⟩
 | x::xs,s,h=>by
  obtain ⟨vs,h1,h2,h3⟩:=h 0 x rfl
  obtain ⟨l,k1,k2⟩:=qcG xs (s+k) fun i y hy=>by
   obtain ⟨us,g1,g2,g3⟩:=h (i+1) y (by simpa using hy)
   refine ⟨us,g1,fun j hj=>?_,g3⟩
   rw[←g2 j hj,K5]
   congr 1
   omega
  refine ⟨⟨(x,vs),h1,h3⟩::l,by simp [k1],fun i p hp j hj=>?_⟩
  cases i with
  | zero=>
   simp at hp
   subst hp
   simpa using h2 j hj
  | succ i=>
   have:=k2 i p (by simpa using hp) j hj
   rw[←this,K5]
   congr 1
   omega

theorem qgc {l:List Value} {j:Nat} (h:j<l.length):l[j]?=some l[j]!:=by rw[Kh h,getElem!_pos l j h]
abbrev SortT (fid:FuncId→Option Nat) (M:Mem) (φ:Nat→Loc) (els:List AV) (k:Nat):={p:AV × List Value // p.2.length=k∧p.1∈els∧VRels fid M [] φ p.1.cells p.2∧∀ v,v∈p.2→v.oneCell'=true}
def SortT.enc (fid:FuncId→Option Nat) (M:Mem) (φ:Nat→Loc) (els:List AV) (k:Nat) (x:SortT fid M φ els k):List Value:=x.1.2
section
variable {P:Program} {fid:FuncId→Option Nat} {pf:Nat→Bool}
def qiO (P:Program) (fid:FuncId→Option Nat) (f k:Nat):Prop:=∀ g,fid g=some f→∃ ρ,SlLaysF0.n6 P ρ∧ρ.f 6=g∧(∀ w,(isAgg (ρ.t 24)).run P w = .ok true w)∧∀ w,(Go.sizeOf (ρ.t 24)).run P w = .ok k w

set_option maxHeartbeats 1000000 in
theorem qjH {so:Nat→Option Nat} {PR:Nat→List AV→AV→Prop} (hF:q9S P fid) (hS : ∀ f k,so f=some k→qiO P fid f k) (hPR : ∀ f ts v,PR f ts v→q1H P fid f ts v) {f:Nat} {args:List AV} {H H':Heap} {v:AV}
  (h:qlh so PR f args H v H'):SimRun P fid f args H v H':=by
 intro g hg M φ B us w hargs hH hB htb
 obtain ⟨k,hso,rfl,h⟩:=h
 obtain ⟨ρ,L,rfl,aE,zE⟩:=hS f k hso g hg
 obtain ⟨u0,u1,rfl⟩ : ∃ u0 u1,us = #[u0,u1]:=by
  have h1:us.size=2:=by
   have h1:=hargs.1
   rcases h with ⟨_,rfl,_⟩ | ⟨_,_,_,_,_,_,_,rfl,_⟩<;>simpa using h1.symm
  obtain ⟨l⟩:=us
  match l,h1 with
  | [a,b],_=>exact ⟨a,b,rfl⟩
 rcases h with ⟨g2,rfl,rfl⟩ | ⟨r,g2,els,els',fam,c,H1,rfl,hne,hlim,hr,hst,rfl,hord,hagg,hcmp,hperm,hsort⟩
 ·have h0:VRel fid M _ φ (.snil k) u0:=hargs.head
  cases h0 with
  | snil _ a=>
   refine (AnyF.slices_SortFunc_none (P:=P) (ρ:=ρ) L a 0 u1 w).mono fun e w' he=>?_
   obtain ⟨rfl,rfl⟩:=he
   exact ⟨_,rfl,M,φ,q47,hH,Ext.refl ..⟩
 have h0:VRel fid M H φ (.sref k r 0 els.length) u0:=hargs.head
 have h1:VRel fid M H φ (.fn g2 []) u1:=hargs.tail.head
 have hpos:0<els.length:=Ve.2 hne
 have R:=hH.row _ _ _ _ _ _ hr
 obtain ⟨cs,t,fr,hc,hsz,hfz,hcell⟩:=R.cells
 cases h0 with
 | sref _ _ _ _ cap a hc0 ha0 hp0 hsl=>
 cases h1 with
 | fn _ g3 _ vs hg3 hl3 hv3=>
 have hvs:vs = #[]:=Array.size_eq_zero_iff.1 (by simpa using hl3.symm)
 subst hvs
 obtain ⟨_,hsl2⟩:=hsl _ _ _ _ hr
 obtain ⟨rfl,_⟩:=hsl2 (by omega)
 have hwide : ∀ x,x∈els→x.cells.length=k∧x.cells.all AV.one=true:=fun x hx=>by
  obtain ⟨cl,rfl,k1,k2⟩:=hagg x hx
  exact ⟨k1,k2⟩
 have hpick:=qcG (Q:=fun x vs=>x∈els∧VRels fid M [] φ x.cells vs∧∀ v,v∈vs→v.oneCell'=true) (c:=cs) (k:=k) els (φ r).off fun i x hx=>by
  have hxm:=Kc hx
  obtain ⟨w1,w2⟩:=hwide x hxm
  obtain ⟨cl,rfl,_,_⟩:=hagg x hxm
  have hget : ∀ j,j<k→∃ y v,(AV.agg cl).cells[j]?=some y∧cs[(φ r).off+i * k+j]?=some v∧VRel fid M H φ y v:=fun j hj=>by
   obtain ⟨y,hy⟩ : ∃ y,(AV.agg cl).cells[j]?=some y:=⟨_,Kh (by omega)⟩
   obtain ⟨v,h2,h3⟩:=hcell i (.agg cl) j y hx hy
   exact ⟨y,v,hy,h2,h3⟩
  refine ⟨(List.range k).map fun j=>(cs[(φ r).off+i * k+j]?).getD default,by simp,fun j hj=>?_,hxm,⟨by simp [w1],fun j y v hy hv=>?_⟩,fun v hv=>?_⟩
  ·obtain ⟨y,v,_,h2,_⟩:=hget j hj
   rw[KB,Vm hj,h2]
   simp [h2]
  ·have hj:j<k:=by
    have:=(Ky.1 hy).1
    omega
   obtain ⟨y',v',h1,h2,h3⟩:=hget j hj
   rw[KB,Vm hj] at hv
   simp only[KI,h2,Vc,Kn] at hv
   rw[h1] at hy
   cases hy
   subst hv
   have hp:=R.flat rfl _ hxm
   refine h3.bare (fun _ _ _ h=>h) (k:=6) ?_
   have hp2:AV.pureN 7 (.agg cl)=true:=q1t 6 _ hp
   exact Ki.1 hp2 _ (Kc h1)
  ·obtain ⟨j,hj,rfl⟩:=KQ.1 hv
   obtain ⟨y,v,h1,h2,h3⟩:=hget j (by simpa using hj)
   rw[h2]
   exact h3.oneCell (Ki.1 w2 _ (Kc h1))
 obtain ⟨l,hl1,hl2⟩:=hpick
 have hll:l.length=els.length:=by
  have:=congrArg List.length hl1
  simpa using this
 have hinh:Inhabited (SortT fid M φ els k):=⟨l[0]'(by omega)⟩
 have hO:SWO (ltOf fun (x y:SortT fid M φ els k)=>c x.1.1 y.1.1):=by
  refine ⟨fun x=>?_,fun x y z h1 h2=>?_,fun x y z h1 h2=>?_⟩
  ·simpa [ltOf] using hord.irrefl _ x.2.2.1
  ·simp only[ltOf,decide_eq_true_eq] at h1 h2 ⊢
   exact hord.trans _ _ _ x.2.2.1 y.2.2.1 z.2.2.1 h1 h2
  ·simp only[ltOf,decide_eq_false_iff_not] at h1 h2 ⊢
   intro h3
   by_cases h4:c y.1.1 x.1.1<0
   ·exact h2 (hord.trans _ _ _ y.2.2.1 x.2.2.1 z.2.2.1 h4 h3)
   ·have:=hord.total _ _ x.2.2.1 y.2.2.1 h1 h4
    rw[this] at h3
    exact h2 h3
 have hmem : ∀ (dk:List Value),dk.length=els.length * k→∀ (m:World),(∀ b,b<w.heap.size→m.heap[b]?=(w.setCells (φ r).blk (φ r).off dk).heap[b]?)→∀ b o u,M b o=some u→m.cell? ⟨b,o,none⟩=some u:=fun dk hdk m hm b o u hu=>by
  have W:=hH.write (p:=0) (vs:=dk) hr hst (.inl rfl) (.inl rfl) (by simp) (by have:=R.fits; omega)
  rw[Vu] at W
  have h2:=W.mem b o u hu
  rw[←h2]
  exact World.cell?_of_block (hm b (q9M hH hu))
 have hblk:(φ r).blk<w.heap.size:=by
  rcases Vx (φ r).blk w.heap.size with h | h
  ·exact h
  ·rw[Array.getElem?_eq_none h] at hc
   cases hc
 have hsw : ∀ (m:Nat) (dk:Array (SortT fid M φ els k)) (os:Array Obj) b,b<w.heap.size→(sortWorldK (SortT.enc fid M φ els k) k w (φ r).blk (φ r).off m dk os).heap[b]?=(w.setCells (φ r).blk (φ r).off (flatK (SortT.enc fid M φ els k) k dk).toList).heap[b]?:=fun m dk os b hb=>by
  have:=q5S id w (φ r).blk (φ r).off m (flatK (SortT.enc fid M φ els k) k dk) os hb
  rw[List.map_id] at this
  exact this
 have hcl:CmpLays P g3 #[] (SortT.enc fid M φ els k) k (fun x y=>c x.1.1 y.1.1) (φ r).blk (φ r).off l.toArray.size w:=by
  intro m os dk hs x y
  have hrel : ∀ z:SortT fid M φ els k,VRel fid M [] φ z.1.1 (.agg z.1.2.toArray):=fun z=>by
   obtain ⟨⟨z1,z2⟩,q1,q2,q3,q4⟩:=z
   obtain ⟨cl,rfl,_,_⟩:=hagg z1 q2
   refine .agg _ _ (by rw[Vz]; exact q3.1) fun i x v hx hv=>q3.2 i x v hx (by simpa using hv)
  have hbs : ∀ (m:Nat) (dk:Array (SortT fid M φ els k)) (os:Array Obj),Bel B w (sortWorldK (SortT.enc fid M φ els k) k w (φ r).blk (φ r).off m dk os):=fun m dk os=>by
   refine ⟨⟨rfl,rfl,rfl,?_,fun q hq=>?_⟩,Nat.le_add_right _ _⟩
   ·exact size_sortWorldK_c _ _ _ _ _ _ _ _
   ·rw[hsw m dk os q (by omega),q2i _ _ _ _ _ (by have:=R.base; omega)]
  have hp:=hPR _ _ _ (hcmp x.1.1 y.1.1 x.2.2.1 y.2.2.1) g3 hg3 M φ #[.agg x.1.2.toArray,.agg y.1.2.toArray] (sortWorldK (SortT.enc fid M φ els k) k w (φ r).blk (φ r).off m dk os) (VRels.cons (hrel x) (VRels.cons (hrel y) VRels.nil))
   (hmem (flatK (SortT.enc fid M φ els k) k dk).toList (by simp at hs ⊢; rw[hs,hll]) _ fun b hb=>hsw m dk os b hb) (TabC.up (TabC.mono htb (hbs m dk os)) (KZ hB (hbs m dk os).size))
  refine (show Calls P g3 (#[.agg x.1.2.toArray,.agg y.1.2.toArray] ++ #[]) _ _ from by rw[Array.append_empty]; exact hp).mono fun e w' he=>?_
  obtain ⟨rr,rfl,M',h2,_,_,_,h3⟩:=he
  cases h2
  exact ⟨rfl,qmM h3⟩
 have eg : ∀ args w,(callFunc g3 args).run P w = .ok (.enter g3 args) w:=by
  obtain ⟨fn,k1,k2,k3⟩:=hF _ _ hg3
  obtain ⟨cd,k4⟩:=KV.1 k2
  exact enters_of k1 k3 k4
 have hHolds:HoldsK (SortT.enc fid M φ els k) k w (φ r).blk (φ r).off l.toArray:=by
  intro j hj
  rw[size_flatK,Vz,hll] at hj
  have hfits:=R.fits
  refine ⟨?_,q1M hc (hfz _ (by omega))⟩
  have hk0:0<k:=by
   rcases Nat.eq_zero_or_pos k with h | h
   ·rw[h] at hj
    omega
   ·exact h
  have hi:j / k<l.length:=by
   rw[hll]
   exact Nat.div_lt_of_lt_mul (by rw[Nat.mul_comm]; exact hj)
  have hm:j % k<k:=Nat.mod_lt _ hk0
  have h4:=hl2 (j / k) _ (Kh hi) (j % k) hm
  have h5:(φ r).off+j / k * k+j % k=(φ r).off+j:=by
   have:=Nat.div_add_mod j k
   rw[Nat.mul_comm] at this
   omega
  rw[h5] at h4
  have hlen:=(l[j / k]).2.1
  rw[q0K hc,h4,get_flatK _ _ _ _ (by rw[Vz,hll]; exact hj),getElem!_pos l.toArray (j / k) (by simpa using hi),List.getElem_toArray]
  exact qgc (by rw[hlen]; exact hm)
 have hmain:=AnyQ.slices_SortFunc L k aE zE (SortT.enc fid M φ els k) (fun x=>x.2.1) (fun x=>x.2.2.2.2) _ hO g3 #[] (φ r).blk (φ r).off cap l.toArray w eg hcl hHolds hblk (by rw[Vz,hll]; have:lim=2147483648:=rfl; omega)
 rw[Vz,hll] at hmain
 rw[V8,Vu]
 refine hmain.mono fun e w' he=>?_
 obtain ⟨rfl,d',n,os,hp,hs,rfl⟩:=he
 obtain ⟨hd1,_,hd2⟩:=hp
 have e1:d'.extract 0 els.length=d':=by
  rw[←hll,←Vz,←hd1]
  exact Array.extract_size
 have e2:l.toArray.extract 0 els.length=l.toArray:=by
  rw[←hll,←Vz]
  exact Array.extract_size
 rw[e1,e2] at hd2
 have hdl:d'.size=els.length:=by rw[hd1,Vz,hll]
 have hel:d'.toList.map (fun x=>x.1.1)=els':=by
  refine List.Perm.eq_of_pairwise (le:=fun x y=>x∈els∧y∈els∧¬ c y x<0) (fun a b _ _ h1 h2=>hord.total _ _ h1.1 h1.2.1 h2.2.2 h1.2.2) ?_ ?_ ?_
  ·rw[List.pairwise_iff_getElem]
   intro i j hi hj hij
   simp only[Ka,VT] at hi hj
   simp only[List.getElem_map,Array.getElem_toList]
   refine ⟨d'[i].2.2.1,d'[j].2.2.1,?_⟩
   have:=hs i j (Kp _) hij (by omega)
   rw[getElem!_pos d' i hi,getElem!_pos d' j hj] at this
   simpa [ltOf] using this
  ·have hm : ∀ x,x∈els'→x∈els:=fun x hx=>hperm.mem_iff.2 hx
   exact hsort.imp_of_mem fun h1 h2 h3=>⟨hm _ h1,hm _ h2,h3⟩
  ·have:=hd2.map (fun x:SortT fid M φ els k=>x.1.1)
   rw[hl1] at this
   exact this.trans hperm
 have hwide' : ∀ x,x∈els'→x.cells.length=k∧x.cells.all AV.one=true:=fun x hx=>hwide x (hperm.mem_iff.2 hx)
 have hfl':=q0B (n:=k) (l:=els') fun x hx=>(hwide' x hx).1
 have hfl0:=q0B (n:=k) (l:=els) fun x hx=>(hwide x hx).1
 have hW:=hH.rewrite (els':=els') (fl':=true) (p:=0) (us:=(flatK (SortT.enc fid M φ els k) k d').toList) (vs:=flat els') hr hst (by rw[hfl',←hperm.length_eq]; omega) ?_ hperm.length_eq.symm ?_ hwide' ?_
 ·rw[Vu] at hW
  obtain ⟨hw1,hw2,hw3⟩:=hW
  have hsz2:(w.setCells (φ r).blk (φ r).off (flatK (SortT.enc fid M φ els k) k d').toList).heap.size=w.heap.size:=by simp
  have hw4:=hw1.world (w':=sortWorldK (SortT.enc fid M φ els k) k w (φ r).blk (φ r).off n d' os) fun b hb=>hsw n d' os b (by rw[←hsz2]; exact hb)
  refine ⟨_,rfl,M,φ,q47,hw4,fun _ _ _ h=>h,fun _ _ _ h _=>h,hw2.later,⟨⟨rfl,rfl,rfl,?_,fun q hq=>?_⟩,Nat.le_add_right _ _⟩⟩
  ·exact size_sortWorldK_c _ _ _ _ _ _ _ _
  ·rw[hsw n d' os q (by omega)]
   exact hw3.block q hq
 ·refine ⟨by rw[hfl',←hperm.length_eq,←hdl]; simp,fun p y v hy hv=>?_⟩
  obtain ⟨i,x,j,hx,hj,rfl⟩:=q5w (n:=k) (fun x hx=>(hwide' x hx).1) hy
  have hxm:=Kc hx
  have hjk:j<k:=by
   have:=(Ky.1 hj).1
   have:=(hwide' x hxm).1
   omega
  have hi:i<d'.size:=by
   have:=(Ky.1 hx).1
   rw[hdl,hperm.length_eq]
   exact this
  have hlt:i * k+j<d'.size * k:=by
   have:=K3 k (show i+1≤d'.size from hi)
   rw[K5,Nat.one_mul] at this
   omega
  have hdi:x=d'[i].1.1:=by
   rw[←hel,KB,VJ,KD hi] at hx
   exact (K8 hx).symm
  have hk0:0<k:=by omega
  have hv2:d'[i].1.2[j]?=some v:=by
   rw[VJ,KD (by rw[size_flatK]; exact hlt)] at hv
   have h6:=get_flatK (SortT.enc fid M φ els k) k d' (i * k+j) hlt
   rw[getElem!_pos _ _ (by rw[size_flatK]; exact hlt)] at h6
   rw[h6,show (i * k+j) / k=i by rw[Nat.mul_comm,Nat.mul_add_div hk0,Nat.div_eq_of_lt hjk,Vu],show (i * k+j) % k=j by rw[Nat.mul_comm,Nat.mul_add_mod,Nat.mod_eq_of_lt hjk],getElem!_pos d' i hi] at hv
   have h7:=qgc (l:=d'[i].1.2) (j:=j) (by rw[d'[i].2.1]; exact hjk)
   rw[h7]
   exact hv
  rw[hdi] at hj
  exact (d'[i].2.2.2.1.2 j y v hj hv2).clad
 ·rw[List.take_zero,Kv,Vo,hfl',←hperm.length_eq,←hfl0,List.drop_length,KY]
 ·exact fun _ x hx=>R.flat rfl x (hperm.mem_iff.2 hx)
end
theorem qdZ {P:Program} {fid:FuncId→Option Nat} {pf:Nat→Bool} {C:Ctx} {so:Nat→Option Nat} (hC:CtxOk P fid pf C) (hS : ∀ f k,so f=some k→C.code f=none∧qiO P fid f k∧∀ a H v H',¬ C.prim f a H v H'):CtxOk P fid pf (q4P C so):=by
 have hPR : ∀ f ts v,q0k C f ts v→q1H P fid f ts v:=fun f ts v h=>(q9V hC h).1
 refine ⟨hC.fids,hC.coded,fun f args H v H' hp=>?_,hC.pprim⟩
 rcases hp with hp | hp
 ·obtain ⟨h1,h2,h3⟩:=hC.prim _ _ _ _ _ hp
  refine ⟨h1,h2,fun v2 H2 hp2=>?_⟩
  rcases hp2 with hp2 | hp2
  ·exact h3 _ _ hp2
  ·obtain ⟨k,hk,_⟩:=hp2
   exact ((hS f k hk).2.2 _ _ _ _ hp).elim
 ·have hp0:=hp
  obtain ⟨k,hk,hp⟩:=hp
  refine ⟨(hS f k hk).1,qjH hC.fids (fun f k hf=>(hS f k hf).2.1) hPR hp0,fun v2 H2 hp2=>?_⟩
  rcases hp2 with hp2 | ⟨k2,hk2,hp2⟩
  ·exact ((hS f k hk).2.2 _ _ _ _ hp2).elim
  ·rw[hk] at hk2
   cases hk2
   obtain ⟨rfl,hp⟩:=hp
   obtain ⟨rfl,hp2⟩:=hp2
   refine ⟨rfl,?_⟩
   rcases hp with ⟨g,h1,hp⟩ | ⟨r,g,els,els',fam,c,H1,h1,h2,h3,h4,h5,h6,h7,h8,h9,h10,h11⟩
   ·rcases hp2 with ⟨g',k1,hp2⟩ | ⟨r',g',fs,fs',fam',c',H2,k1,_⟩
    ·rw[hp,hp2]
    ·rw[h1] at k1
     cases k1
   rcases hp2 with ⟨g',k1,hp2⟩ | ⟨r',g',fs,fs',fam',c',H2,k1,k2,k3,k4,k5,k6,k7,k8,k9,k10,k11⟩
   ·rw[h1] at k1
    cases k1
   rw[h1] at k1
   simp only[List.cons.injEq,AV.sref.injEq,AV.fn.injEq,and_true,true_and] at k1
   obtain ⟨⟨rfl,_⟩,rfl⟩:=k1
   rw[h4] at k4
   cases k4
   rw[h5] at k5
   cases k5
   have hc : ∀ x y,x∈els→y∈els→c x y=c' x y:=fun x y hx hy=>by
    have:=(q9V hC (h9 x y hx hy)).2.2 _ (k9 x y hx hy)
    simp only[AV.int.injEq,true_and] at this
    exact this.symm
   have he:els'=fs':=by
    have hm1 : ∀ x,x∈els'→x∈els:=fun x hx=>h10.mem_iff.2 hx
    have hm2 : ∀ x,x∈fs'→x∈els:=fun x hx=>k10.mem_iff.2 hx
    refine List.Perm.eq_of_pairwise (le:=fun x y=>x∈els∧y∈els∧¬ c y x<0) (fun a b _ _ h1 h2=>h7.total _ _ h1.1 h1.2.1 h2.2.2 h1.2.2) ?_ ?_ (h10.symm.trans k10)
    ·exact h11.imp_of_mem fun h1 h2 h3=>⟨hm1 _ h1,hm1 _ h2,h3⟩
    ·exact k11.imp_of_mem fun h1 h2 h3=>⟨hm2 _ h1,hm2 _ h2,by rw[hc _ _ (hm2 _ h2) (hm2 _ h1)]; exact h3⟩
   rw[h6,k6,he]
end Ago
namespace Ago
open Go
variable {uT:Unit} [TabC uT]
section
variable {P:Program} {fid:FuncId→Option Nat}
theorem SimRun.of_pure {f:Nat} {args ts:List AV} {H:Heap} {v:AV} (ha:q1y (frz H 6) args=some ts) (hr:q1H P fid f ts v):SimRun P fid f args H v (q0A H args v):=by
 intro g hg M φ B us w hargs hH hB htb
 have hfz:=q9i hH hargs ha
 refine (hr g hg _ φ us w hfz (fun b o u hm=>q0Y hm) (TabC.up htb hB)).mono fun e w' he=>?_
 obtain ⟨r,rfl,M',h7,h8,h9,h10,h11⟩:=he
 refine ⟨r,rfl,?_⟩
 unfold q0A
 cases hp:v.isPlain with
 | true=>
  simp only[if_true]
  exact ⟨M,φ,h7.plain 6 hp,q9Q hH h11.toBelow,fun _ _ _ h=>h,fun _ _ _ h _=>h,Later.refl _ _ _,h11.mono hB⟩
 | false=>
  simp only[Ke,if_false]
  refine ⟨M',φ,h7.clad,q7D hH h11.toBelow h8 h9 h10,fun b o u hm=>h8 _ _ _ (q0L hH hm),fun b o u hm hb=>?_,?_,h11.mono hB⟩
  ·have hf:=h9 b o u hm (Nat.lt_of_lt_of_le hb hB)
   have hcell:=q0Y hf
   unfold q0t at hf
   split at hf
   ·rename_i hc
    rcases hc with hc | ⟨r2,n2,els2,ro2,fl2,fam2,h12,h13,h14,_⟩
    ·obtain ⟨u0,hu0⟩:=KV.1 hc
     have:=hH.mem _ _ _ hu0
     rw[hcell] at this
     cases this
     exact hu0
    ·have:=(hH.row _ _ _ _ _ _ h13).base
     omega
   ·cases hf
  ·exact (q9l _ _ _).later
end
end Ago
namespace Ago
open Go
variable {uT:Unit} [TabC uT]
def qco (C:Ctx) (f0:Nat) (L:List AV→Heap→AV→Heap→Prop):Ctx where
 code:=C.code
 prim f a H v H':=C.prim f a H v H'∨(f=f0∧L a H v H')
 pprim:=C.pprim
theorem q8L {C:Ctx} {f0:Nat} {L:List AV→Heap→AV→Heap→Prop} {j:J} (h:BS C j):BS (qco C f0 L) j:=qad (C:=C) (C':=qco C f0 L) (fun _ _ h=>h) (fun _ _ _ _ _ h=>Or.inl h) (fun _ _ _ h=>h) h
theorem qky {C:Ctx} {f0:Nat} {L:List AV→Heap→AV→Heap→Prop} {a:List AV} {H H':Heap} {v:AV} (h:L a H v H'):q1u (qco C f0 L) f0 a H v H':=.prim (Or.inr ⟨rfl,h⟩)
theorem qir {P:Program} {fid:FuncId→Option Nat} {pf:Nat→Bool} {C:Ctx} {f0:Nat} {L:List AV→Heap→AV→Heap→Prop} (hC:CtxOk P fid pf C) (h0:C.code f0=none) (hp : ∀ a H v H',¬ C.prim f0 a H v H')
  (hs : ∀ a H v H',L a H v H'→SimRun P fid f0 a H v H') (hd : ∀ a H v H' v2 H2,L a H v H'→L a H v2 H2→v2=v∧H2=H'):CtxOk P fid pf (qco C f0 L) where
 fids:=hC.fids
 coded:=hC.coded
 prim f a H v H' h:=by
  rcases h with h | ⟨rfl,h⟩
  ·obtain ⟨h1,h2,h3⟩:=hC.prim f a H v H' h
   refine ⟨h1,h2,fun v2 H2 h'=>?_⟩
   rcases h' with h' | ⟨rfl,_⟩
   ·exact h3 v2 H2 h'
   ·exact absurd h (hp _ _ _ _)
  ·refine ⟨h0,hs _ _ _ _ h,fun v2 H2 h'=>?_⟩
   rcases h' with h' | ⟨_,h'⟩
   ·exact absurd h' (hp _ _ _ _)
   ·exact hd _ _ _ _ _ _ h h'
 pprim:=hC.pprim
end Ago
