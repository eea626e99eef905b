/- Steps of the model draw no less: of a call that a contract tells,the world behind it has drawn no less. -/
import Derived.Test.YtahoajoopdphhaaGreatDoorMachC
import Derived.Calls
import Derived.RunT
import Derived.StepT
import Derived.Test.YtahoajoopdphhaaGreatDoorMachE
import Derived.Test.YtahoajoopdphhaaGreatDoorMachD
import Derived.Shelf.SlSortCmp.NoneTotal
import Derived.Test.YtahoajoopdphhaaGreatDoorMachG
import Derived.Shelf.Small.Strs
import Derived.Shelf.SortM.Plain
import Derived.Shelf.SortM.SortNone
import Derived.Shelf.Strings.Repeat
set_option linter.unusedSimpArgs false
set_option linter.unusedVariables false
namespace Ago
open Go
def sDr (n:Nat):Stepped→Prop
 | .next m=>n≤m.world.drawn
 | .ended _ _=>True
def gDr (n:Nat):GStep→Prop
 | .go _ w _ | .comm _ _ _ _ w _ | .spawn _ _ w _ | .count _ w _ | .timer _ _ w _ | .alone _ _ w _ | .newcoro _ _ _ w _ | .coroswitch _ _ _ w _ | .collect _ w _ | .watch _ w _=>n≤w.drawn
 | .ended _ _ _=>True
theorem q2l {n:Nat} (es:Array Event) (s:GStep) (h:gDr n s):gDr n (GStep.after es s):=by
 cases s<;>exact h
theorem q4c {α:Type} {P:Program} (s:Sem α) (w:World) (es es':Array Event) {a:α} {w':World} (h:s.runT P w es=(.ok a w',es')):w.drawn≤w'.drawn:=
 q0k s w (by rw[←Sem.runT_fst P s w es,h])

def rDr (n:Nat) {α:Type}:Result α→Prop
 | .ok _ w=>n≤w.drawn
 | .halt _ w=>n≤w.drawn
theorem qk1 {α:Type} {P:Program} (s:Sem α) : ∀ (w:World),rDr w.drawn (s.run P w):=by
 have le : ∀ {n m:Nat} {r:Result α},n≤m→rDr m r→rDr n r:=by
  intro n m r h k
  cases r<;>exact Vc h k
 induction s with
 | pure a=>intro w; exact Kr _
 | load m a k ih=>
  intro w
  simp only[Sem.run]
  split
  ·exact ih _ _
  ·split
   ·exact ih _ _
   ·exact Kr _
 | store m a v k ih=>
  intro w
  have fin:rDr w.drawn (match w.cell? a with
   | some _ => if w.frozen? a then Result.halt (.unsupported (.unsafePointer "a write to bytes that a string shares")) w else k.run P (w.setCell a v)
   | none=>match w.farStore P a v (m == Mode.atomic) with
    | .ok (w,_)=>k.run P w
    | .error h=>.halt h w):=by
   split
   ·split
    ·exact Kr _
    ·exact ih (w.setCell a v)
   ·split
    ·rename_i e
     exact le (Nat.le_of_eq (q6x e).symm) (ih _)
    ·exact Kr _
  cases v with
  | agg _=>simp only[Sem.run]; exact Kr _
  | tuple _=>simp only[Sem.run]; exact Kr _
  | _=>
   simp only[Sem.run]
   exact fin
 | new o k ih=>
  intro w
  simp only[Sem.run]
  exact ih _ _
 | shape r k ih=>
  intro w
  simp only[Sem.run]
  exact ih _ _
 | freeze a n k ih=>
  intro w
  simp only[Sem.run]
  refine le ?_ (ih _)
  unfold World.freeze
  split<;>exact Kr _
 | frozen a k ih=>
  intro w
  simp only[Sem.run]
  exact ih _ _
 | getObj r k ih=>
  intro w
  simp only[Sem.run]
  split
  ·exact Kr _
  ·exact ih _ _
  ·exact Kr _
 | setObj r o k ih=>
  intro w
  simp only[Sem.run]
  split
  ·exact Kr _
  ·exact ih _
  ·exact Kr _
 | choose q k ih=>
  intro w
  simp only[Sem.run]
  split
  ·exact ih _ _
  ·exact le (Nat.le_succ _) (ih _ _)
 | sys c k ih=>
  intro w
  simp only[Sem.run]
  exact le (qdn c w) (ih _ _)
 | program k ih=>
  intro w
  simp only[Sem.run]
  exact ih _ _
 | mark m k ih=>
  intro w
  simp only[Sem.run]
  exact ih _
 | halt e=>
  intro w
  simp only[Sem.run]
  exact Kr _
theorem q3H {α:Type} {P:Program} (s:Sem α) (w:World) (es es':Array Event) {e:Halt} {w':World} (h:s.runT P w es=(.halt e w',es')):w.drawn≤w'.drawn:=by
 have:=qk1 (P:=P) s w
 rw[←Sem.runT_fst P s w es,h] at this
 exact this
theorem q0s {α:Type} {P:Program} (s:Sem α) (w:World) {e:Halt} {w':World} (h:s.run P w = .halt e w'):w.drawn≤w'.drawn:=by
 have:=qk1 (P:=P) s w
 rw[h] at this
 exact this
theorem q8d {α:Type} {P:Program} {s:Sem α} {w:World} {es es':Array Event} {a:α} {w':World} (h:(s.run P w,es)=(.ok a w',es')):w.drawn≤w'.drawn:=q0k s w (Prod.mk.inj h).1
theorem q54 {α:Type} {P:Program} {s:Sem α} {w:World} {es es':Array Event} {e:Halt} {w':World} (h:(s.run P w,es)=(.halt e w',es')):w.drawn≤w'.drawn:=q0s s w (Prod.mk.inj h).1
theorem qqa {α:Type} {n:Nat} {o:Option α} {a:GStep} {f:α→GStep} (h:gDr n a) (k : ∀ x,gDr n (f x)):gDr n (o.elim a f):=by
 cases o
 ·exact h
 ·exact k _
theorem q2M {n m:Nat} (h:n≤m) {s:GStep} (k:gDr m s):gDr n s:=by
 cases s<;>first | exact trivial | exact Vc h k
theorem qbx {n m:Nat} (h:n≤m) {s:Stepped} (k:sDr m s):sDr n s:=by
 cases s<;>first | exact trivial | exact Vc h k
theorem q4J (fr:Frame) (a:List ByteArray) (m:String) (b:Bool) (w:World):gDr w.drawn (dieOf fr a m b w):=Kr _
theorem qhT (w:World) (fd:Nat) (t:ByteArray) (o:Outcome) (n:Nat):gDr n (endWith w fd t o):=by
 unfold endWith
 simp only[]
 repeat' first
  | exact trivial
  | exact Kr _
  | exact q0k _ _ (by assumption)
  | exact q0s _ _ (by assumption)
  | exact q4c _ _ _ _ (by assumption)
  | exact q3H _ _ _ _ (by assumption)
  | (have h:=q0k _ _ (by assumption); exact h)
  | exact q8d (by assumption)
  | exact q54 (by assumption)
  | refine q2l _ _ ?_
  | split
theorem q2J (p:Program) (fr:Frame) (v:Value) (w:World):gDr w.drawn (endPrinting p fr v w):=by
 unfold endPrinting
 simp only[]
 repeat' first
  | exact trivial
  | exact Kr _
  | exact q0k _ _ (by assumption)
  | exact q0s _ _ (by assumption)
  | exact q4c _ _ _ _ (by assumption)
  | exact q3H _ _ _ _ (by assumption)
  | (have h:=q0k _ _ (by assumption); exact h)
  | exact q8d (by assumption)
  | exact q54 (by assumption)
  | refine q2l _ _ ?_
  | split
theorem q5u (p:Program) (fr:Frame) (c:List Frame) (d:Option Dying) (m:String) (w:World):gDr w.drawn (endFatal p fr c d m w):=by
 unfold endFatal
 simp only[]
 repeat' first
  | exact trivial
  | exact Kr _
  | exact q0k _ _ (by assumption)
  | exact q0s _ _ (by assumption)
  | exact q4c _ _ _ _ (by assumption)
  | exact q3H _ _ _ _ (by assumption)
  | (have h:=q0k _ _ (by assumption); exact h)
  | exact q8d (by assumption)
  | exact q54 (by assumption)
  | refine q2l _ _ ?_
  | split
theorem qim (p:Program) (fr:Frame) (d:Dying) (f:Fatal) (w:World):gDr w.drawn (writeOn p fr d f w):=by
 unfold writeOn
 simp only[Sem.runT_eq]
 repeat' first
  | exact trivial
  | exact Kr _
  | exact q0k _ _ (by assumption)
  | exact q0s _ _ (by assumption)
  | exact q4c _ _ _ _ (by assumption)
  | exact q3H _ _ _ _ (by assumption)
  | (have h:=q0k _ _ (by assumption); exact h)
  | exact q8d (by assumption)
  | exact q54 (by assumption)
  | refine q2l _ _ ?_
  | split
theorem q2V (p:Program) (main:Bool) (fr:Frame) (callers:List Frame) (dying:Option Dying) (v:Value) (w:World):gDr w.drawn (doReturn p main fr callers dying v w):=by
 unfold doReturn
 simp only[]
 repeat' first
  | exact trivial
  | exact Kr _
  | exact q0k _ _ (by assumption)
  | exact q0s _ _ (by assumption)
  | exact q4c _ _ _ _ (by assumption)
  | exact q3H _ _ _ _ (by assumption)
  | (have h:=q0k _ _ (by assumption); exact h)
  | exact q8d (by assumption)
  | exact q54 (by assumption)
  | refine q2l _ _ ?_
  | split
theorem qrZ (p:Program) (fr:Frame) (d:Dying) (w:World):gDr w.drawn (die p fr d w):=by
 unfold die
 simp only[Sem.runT_eq]
 repeat' first
  | exact trivial
  | exact Kr _
  | exact qim ..
  | exact qhT ..
  | exact q0k _ _ (by assumption)
  | exact q0s _ _ (by assumption)
  | exact q2M (q0k _ _ (by assumption)) (q2J ..)
  | exact q2M (q0s _ _ (by assumption)) (q2J ..)
  | exact q2M (q0s _ _ (by assumption)) (q5u ..)
  | exact q2M (q0s _ _ (by assumption)) (q4J ..)
  | refine q2l _ _ ?_
  | split
theorem qd0 (p:Program) (fr:Frame) (callers:List Frame) (dying:Option Dying) (g:Nat) (w:World):gDr w.drawn (early p fr callers dying g w):=by
 unfold early
 simp only[]
 repeat' first
  | exact trivial
  | exact Kr _
  | exact q0k _ _ (by assumption)
  | exact q0s _ _ (by assumption)
  | exact q4c _ _ _ _ (by assumption)
  | exact q3H _ _ _ _ (by assumption)
  | (have h:=q0k _ _ (by assumption); exact h)
  | exact q8d (by assumption)
  | exact q54 (by assumption)
  | refine q2l _ _ ?_
  | split
theorem q4s (p:Program) (fr:Frame) (callers:List Frame) (dying:Option Dying) (d:Deferred) (w:World):gDr w.drawn (callDeferred p fr callers dying d w):=by
 unfold callDeferred
 simp only[Sem.runT_eq]
 repeat' first
  | exact trivial
  | exact Kr _
  | exact q2J ..
  | exact q2V ..
  | exact q4s ..
  | exact q0k _ _ (by assumption)
  | exact q0s _ _ (by assumption)
  | exact q2M (q0k _ _ (by assumption)) (q2V ..)
  | exact q2M (q0k _ _ (by assumption)) (q4J ..)
  | exact q2M (q0s _ _ (by assumption)) (q5u ..)
  | exact q2M (q0s _ _ (by assumption)) (q4J ..)
  | exact q2M (q0s _ _ (by assumption)) (qd0 ..)
  | refine q2l _ _ ?_
  | split
theorem qlK (p:Program) (main:Bool) (fr:Frame) (callers:List Frame) (dying:Option Dying) (w:World):gDr w.drawn (unwind p main fr callers dying w):=by
 unfold unwind
 simp only[Sem.runT_eq]
 repeat' first
  | exact trivial
  | exact Kr _
  | exact q2J ..
  | exact q2V ..
  | exact q4s ..
  | exact q0k _ _ (by assumption)
  | exact q0s _ _ (by assumption)
  | exact q2M (q0k _ _ (by assumption)) (q2V ..)
  | exact q2M (q0k _ _ (by assumption)) (q4J ..)
  | exact q2M (q0s _ _ (by assumption)) (q5u ..)
  | exact q2M (q0s _ _ (by assumption)) (q4J ..)
  | exact q2M (q0s _ _ (by assumption)) (qd0 ..)
  | refine q2l _ _ ?_
  | split
theorem qcF (p:Program) (listen:Bool) (fr:Frame) (callers:List Frame) (dying:Option Dying) (s:Sem Next) (w:World):gDr w.drawn (stepG.apply p listen fr callers dying s w):=by
 unfold stepG.apply
 cases listen<;>simp only[Sem.runT_eq,Km,if_true,if_false]
 all_goals
  repeat' first
   | exact trivial
   | exact Kr _
   | exact q2J ..
   | exact q2V ..
   | exact q4s ..
   | exact q0k _ _ (by assumption)
   | exact q0s _ _ (by assumption)
   | exact q2M (q0k _ _ (by assumption)) (q2V ..)
   | exact q2M (q0k _ _ (by assumption)) (q4J ..)
   | exact q2M (q0s _ _ (by assumption)) (q5u ..)
   | exact q2M (q0s _ _ (by assumption)) (q4J ..)
   | exact q2M (q0s _ _ (by assumption)) (qd0 ..)
   | refine q2l _ _ ?_
   | split
theorem qpG (p:Program) (listen:Bool) (fr:Frame) (callers:List Frame) (dying:Option Dying) (w:World):gDr w.drawn (stepG.oper p listen fr callers dying w):=by
 unfold stepG.oper
 repeat' first
  | exact trivial
  | exact qcF ..
  | split
theorem qpW (p:Program) (main listen:Bool) (fr:Frame) (callers:List Frame) (dying:Option Dying) (w:World):gDr w.drawn (stepG.exec p main listen fr callers dying w):=by
 unfold stepG.exec
 simp only[Sem.runT_eq]
 repeat' first
  | exact trivial
  | exact Kr _
  | exact qcF ..
  | exact qpG ..
  | exact q0k _ _ (by assumption)
  | exact q0s _ _ (by assumption)
  | exact q2M (q0k _ _ (by assumption)) (q2V ..)
  | exact q2M (q0k _ _ (by assumption)) (qcF ..)
  | refine qqa ?_ (fun _=>?_)
  | refine q2l _ _ ?_
  | split
theorem qnJ (p:Program) (main:Bool) (g:Goroutine) (w:World) (listen:Bool):gDr w.drawn (stepG p main g w listen):=by
 unfold stepG
 simp only[]
 repeat' first
  | exact qrZ ..
  | exact qpW ..
  | exact qlK ..
  | split
theorem qdS {rest:Rest} {cases:Array CommCase} {w w':World} (h:waitingAt rest cases w=some w'):w.drawn≤w'.drawn:=by
 unfold waitingAt at h
 repeat' first
  | (simp at h; done)
  | (cases h; exact Kr _)
  | split at h
theorem qmZ {fr:Frame} {m:String} {w w':World} {g:Goroutine} {es:Array Event} (h:endThrow fr m w = .go g w' es):w.drawn≤w'.drawn:=by
 have:=q4J fr [] m false w
 rw[show dieOf fr [] m false w=endThrow fr m w from rfl,h] at this
 exact this
theorem qb2 (p:Program) (rest:Rest) (gs:Array Goroutine) (i:Nat) (g:Goroutine) (cases:Array CommCase) (blocking:Bool) (shape:CommShape) (w:World):sDr w.drawn (communicate p rest gs i g cases blocking shape w).1:=by
 unfold communicate
 simp only[]
 repeat' first
  | exact trivial
  | exact Kr _
  | exact q0k _ _ (by assumption)
  | exact q0s _ _ (by assumption)
  | (have h:=q0k _ _ (by assumption); exact h)
  | exact qdS (by assumption)
  | (have h:=q0k _ _ (by assumption); exact Vc (q0k _ _ (by assumption)) h)
  | exact Vc (q0k _ _ (by assumption)) (q0s _ _ (by assumption))
  | exact Vc (q0k _ _ (by assumption)) (q0k _ _ (by assumption))
  | split
theorem qjI (p:Program) (gs:Array Goroutine) (rest:Rest) (w:World):sDr w.drawn (look p gs rest w):=by
 unfold look
 simp only[]
 repeat' first
  | exact trivial
  | exact Kr _
  | exact q0k _ _ (by assumption)
  | (have h:=q0k _ _ (by assumption); exact h)
  | split
theorem qmr (p:Program) (m:Machine) (k:Nat):sDr m.world.drawn (serve p m k):=by
 unfold serve
 simp only[]
 repeat' first
  | exact trivial
  | exact Kr _
  | split
theorem qmc (w:World) (c:Nat):(drain w c).2.drawn=w.drawn:=by
 unfold drain
 split<;>rfl
theorem qk8 (m:Machine) (k:Nat) (t:Timer) (a b:Nat):(retime m k t a b).2.world.drawn=m.world.drawn:=by
 unfold retime
 cases t.chan with
 | none=>rfl
 | some c=>exact qmc m.world c
theorem qkV {m m':Machine} {var:Addr} (h:timerOp.opened m var=some m'):m'.world.drawn=m.world.drawn:=by
 unfold timerOp.opened at h
 repeat' first
  | (simp at h; done)
  | (cases h; rfl)
  | split at h
theorem qin (m:Machine) (op:TimerOp) {v:Value} {m':Machine} (h:timerOp m op = .ok (v,m')):m'.world.drawn=m.world.drawn:=by
 unfold timerOp at h
 simp only[] at h
 repeat' first
  | (simp at h; done)
  | (simp only[Except.ok.injEq,Vm] at h; obtain ⟨_,rfl⟩:=h; rfl)
  | (unfold timerOp.named at h)
  | (simp only[Except.ok.injEq] at h; have:=congrArg (fun x=>x.2.world.drawn) h; simp only[qk8] at this; first | exact this.symm | exact this.symm.trans (qkV (by assumption)))
  | split at h
theorem qwB (p:Program) (m:Machine) (i:Nat) (b:Bool):sDr m.world.drawn (runT p m i b).1:=by
 simp only[runT]
 generalize m.gs.swapAt! _ _=gg
 have hs:=qnJ p (i == 0) gg.1 m.world b
 revert hs
 generalize stepG p _ gg.1 m.world b=s
 intro hs
 cases s<;>simp only[]
 all_goals first
  | exact trivial
  | exact hs
  | exact qbx hs (qb2 ..)
  | exact qbx hs (qjI ..)
  | (
   repeat' first
    | exact trivial
    | exact hs
    | (have h:=qin _ _ (by assumption); exact Vc hs (Nat.le_of_eq h.symm))
    | exact Vc hs (qmZ (by assumption))
    | split)
theorem qj7 (m:Machine) (t:Nat):(m.advanceTo t).world.drawn=m.world.drawn:=rfl
def mDr (n:Nat):Move→Prop
 | .goroutine m _=>n≤m.world.drawn
 | .machine s _=>sDr n s
theorem qoJ {n m:Nat} (h:n≤m) {s:Move} (k:mDr m s):mDr n s:=by
 cases s
 ·exact Vc h k
 ·exact qbx h k
theorem qch (p:Program) (m:Machine):mDr m.world.drawn (askOn p m):=by
 unfold askOn
 simp only[]
 repeat' first
  | exact trivial
  | exact Kr _
  | exact q0k _ _ (by assumption)
  | (have h:=q0k _ _ (by assumption); exact h)
  | (have h:=q0k _ _ (by assumption); exact Vc (q0k _ _ (by assumption)) h)
  | exact qbx (q0k _ _ (by assumption)) (qmr p { m with world:=_ } _)
  | simp only[qj7]
  | refine Vc ?_ (q0k _ _ (by assumption))
  | split
theorem qoQ (p:Program) (m:Machine):mDr m.world.drawn (ask p m):=by
 unfold ask
 split
 ·split
  ·exact trivial
  ·have h:=q0k _ _ (by assumption)
   rename_i w _
   have k:=qjI p m.gs m.rest w
   split
   ·rename_i heq
    rw[heq] at k
    exact qoJ (Vc h k) (qch ..)
   ·exact qbx h k
  ·have h:=q0k _ _ (by assumption)
   exact qoJ h (qch p { m with world:=_ })
 ·exact qch ..
theorem qpH (p:Program) (m:Machine):mDr m.world.drawn (move p m):=by
 unfold move
 repeat' first
  | exact trivial
  | exact Kr _
  | exact qoQ p m
  | exact qoQ p { m with rest:=_ }
  | split
theorem qq2 (p:Program) (m:Machine):sDr m.world.drawn (step p m):=by
 have h:=qpH p m
 unfold step stepT
 cases hm:move p m with
 | goroutine m' i=>
  rw[hm] at h
  exact qbx h (qwB p m' i true)
 | machine s ops=>
  rw[hm] at h
  exact h
theorem qmy {p:Program} {m m':Machine} (h:Steps p m m'):m.world.drawn≤m'.world.drawn:=by
 obtain ⟨n,hn⟩:=h
 induction n generalizing m with
 | zero=>
  simp only[runN] at hn
  cases hn
  exact Kr _
 | succ n ih=>
  simp only[runN] at hn
  have k:=qq2 p m
  cases hs:step p m with
  | next m1=>
   rw[hs] at hn k
   exact Vc k (ih hn)
  | ended o w=>
   rw[hs] at hn
   cases hn
end Ago
namespace Ago

structure OrdOn (c:AV→AV→Int) (els:List AV):Prop where
 irrefl : ∀ x,x∈els→¬ c x x<0
 trans : ∀ x y z,x∈els→y∈els→z∈els→c x y<0→c y z<0→c x z<0
 total : ∀ x y,x∈els→y∈els→¬ c x y<0→¬ c y x<0→x=y

theorem qq0 {C C':Ctx} (h1:C'.code=C.code) (h2 : ∀ f a H v H',C.prim f a H v H'→C'.prim f a H v H') (h3 : ∀ f t v,C.pprim f t v→C'.pprim f t v) {j:J} (h:BS C j):BS C' j:=by
 induction h with
 | prim h=>exact .prim (h2 _ _ _ _ _ h)
 | pprim h=>exact .pprim (h3 _ _ _ h)
 | nil s=>exact .nil s
 | pass hw _ ih=>exact .pass hw ih
 | pure hw ho hv _ ih=>exact .pure hw ho hv ih
 | read hw ho hv _ ih=>exact .read hw ho hv ih
 | new hw ho hv _ ih=>exact .new hw ho hv ih
 | newAt hw ho hv hf _ ih=>exact .newAt hw ho hv hf ih
 | eff hw ho hv _ ih=>exact .eff hw ho hv ih
 | call hw ho _ _ ihv ih=>exact .call hw ho ihv ih
 | pcall hw ho ha _ _ ihr ih=>exact .pcall hw ho ha ihr ih
 | callv hw ho ha _ _ ihv ih=>exact .callv hw ho ha ihv ih
 | skip s=>exact .skip s
 | ops _ ih=>exact .ops ih
 | draw hne _ ih=>exact .draw hne ih
 | seq _ _ ih1 ih2=>exact .seq ih1 ih2
 | seqE _ he ih=>exact .seqE ih he
 | condT hx _ ih=>exact .condT hx ih
 | condF hx _ ih=>exact .condF hx ih
 | block _ ih=>exact .block ih
 | scope _ ih=>exact .scope ih
 | loop _ _ ih1 ih2=>exact .loop ih1 ih2
 | loopE _ he ih=>exact .loopE ih he
 | exit id s=>exact .exit id s
 | ret s=>exact .ret s
 | run hf _ he hr ih=>exact .run (by rw[h1]; exact hf) ih he hr
 | prun hf _ he hr hv ih=>exact .prun (by rw[h1]; exact hf) ih he hr hv

end Ago
namespace Ago
open Go Go.Proofs Go.Sort Go.Shelf
variable {uT:Unit} [TabC uT]

theorem q9y (b:Nat) : ∀ (vs:List Value) (o:Nat) (w:World),w.setCells b o vs=mapBlock w b fun c=>c.mapIdx fun k x=>if o≤k∧k<o+vs.length then (vs[k-o]?).getD x else x
 | [],o,w=>by
  symm
  refine mapBlock_id w b _ fun c e fr _=>?_
  apply Array.ext_getElem?
  intro k
  rw[Array.getElem?_mapIdx]
  cases c[k]? with
  | none=>rfl
  | some y=>
   rw[KM,if_neg (by simp only[List.length_nil]; omega)]
 | v::vs,o,w=>by
  rw[World.setCells,q9y b vs (o+1),setCell_eq,mapBlock_mapBlock]
  refine mapBlock_congr _ _ _ _ fun c _ _ _=>?_
  apply Array.ext_getElem?
  intro k
  rw[Array.getElem?_mapIdx,Array.getElem?_mapIdx,Array.getElem?_setIfInBounds]
  by_cases hk:o=k
  ·subst hk
   rw[if_pos rfl]
   by_cases hc:o<c.size
   ·rw[if_pos hc,KU hc,KM,KM,if_neg (by omega),if_pos (by simp)]
    simp
   ·rw[if_neg hc,Array.getElem?_eq_none (by omega)]
    rfl
  ·rw[if_neg hk]
   cases c[k]? with
   | none=>rfl
   | some y=>
    rw[KM,KM]
    by_cases h1:o+1≤k∧k<o+1+vs.length
    ·rw[if_pos h1,if_pos (by simp only[List.length_cons]; omega),show k-o=(k-(o+1))+1 by omega,KY]
    ·rw[if_neg h1,if_neg (by simp only[List.length_cons]; omega)]

theorem qdt {α:Type} [Inhabited α] (enc:α→Value) (w:World) (blk off:Nat) (d:Array α):putRow enc w blk off d=w.setCells blk off (d.toList.map enc):=by
 rw[q9y]
 unfold putRow
 refine mapBlock_congr _ _ _ _ fun c _ _ _=>?_
 apply Array.ext_getElem?
 intro k
 unfold putCells
 rw[Array.getElem?_mapIdx,Array.getElem?_mapIdx]
 cases c[k]? with
 | none=>rfl
 | some y=>
  rw[KM,KM]
  by_cases h:off≤k∧k<off+d.size
  ·rw[if_pos h,if_pos (by simpa using h)]
   have hk:k-off<d.size:=by omega
   rw[KH,VW,KU hk,KM,K8,getElem!_pos d _ hk]
  ·rw[if_neg h,if_neg (by simpa using h)]

theorem qb6 {α:Type} [Inhabited α] (enc:α→Value) (w:World) (blk off m:Nat) (dk:Array α) (os:Array Obj) {b:Nat} (hb:b<w.heap.size):(sortWorld enc w blk off m dk os).heap[b]?=(w.setCells blk off (dk.toList.map enc)).heap[b]?:=by
 rw[←qdt]
 show ((putRow enc (Sort.ahead w m) blk off dk).heap++os)[b]?=_
 have:b<(putRow enc (Sort.ahead w m) blk off dk).heap.size:=by rw[Go.Sort.size_putRow]; exact hb
 rw[Array.getElem?_append_left this]
 rfl

section
variable {P:Program} {fid:FuncId→Option Nat} {pf:Nat→Bool}

end

end Ago
namespace Ago
open Go Go.Proofs Go.Shelf
variable {uT:Unit} [TabC uT]
section
variable {P:Program} {fid:FuncId→Option Nat} {pf:Nat→Bool}
def qqH (P:Program) (fid:FuncId→Option Nat) (f:Nat):Prop:=∀ g,fid g=some f→∃ ρ,Lays.n213 P ρ∧ρ.f 213=g
theorem qpi {f:Nat} (h:qqH P fid f) (a b:List UInt8):q2E P fid f [.str a,.str b] (.int .i64 (Lib.compareBytes a b)):=by
 intro g hg M φ us w hargs hM htb
 obtain ⟨ρ,L,rfl⟩:=h g hg
 obtain ⟨u0,u1,rfl⟩ : ∃ u0 u1,us = #[u0,u1]:=by
  have h1:=hargs.1
  simp at h1
  obtain ⟨l⟩:=us
  match l,h1 with
  | [a,b],_=>exact ⟨a,b,rfl⟩
 have h0:VRel fid M [] φ (.str a) u0:=hargs.head
 have h1:VRel fid M [] φ (.str b) u1:=hargs.tail.head
 cases h0 with
 | str s _ hs=>
  cases h1 with
  | str t _ ht=>
   refine (Any.bytealg_CompareString L s t w).mono fun e w' he=>?_
   obtain ⟨rfl,rfl⟩:=he
   rw[hs,ht]
   exact ⟨_,rfl,M,.int _ _,fun _ _ _ h=>h,fun _ _ _ h _=>h,hM,Bel.refl _ _⟩
end
end Ago
namespace Ago
open Go Go.Proofs Go.Sort Go.Shelf
variable {uT:Unit} [TabC uT]

def qlt (s:ByteArray):Nat→Nat→Nat
 | 0,_=>0
 | k+1,pos=>if pos<s.size then 1+qlt s k (pos+(Utf8.decode s pos).2) else 0
def qqI (s:List UInt8):Nat:=qlt ⟨s.toArray⟩ s.length 0

def q90 (ss:List (List UInt8)):List (List UInt8):=ss.mergeSort fun x y=>decide (x≤y)

def qk6 (args:List AV) (H:Heap) (v:AV) (H':Heap):Prop:=
 v = .tup []∧((∃ n,args=[.snil n]∧H'=H) ∨
  ∃ r fam H1,∃ ss:List (List UInt8),args=[.sref 1 r 0 ss.length]∧ss≠[]∧ss.length≤lim∧H[r]?=some (.row 1 (ss.map .str) false true fam)∧H.strike r fam 0=some H1∧H'=H1.set r (.row 1 ((q90 ss).map .str) false true fam))

def qab (C:Ctx) (cs ln ss:Nat→Bool):Ctx where
 code:=C.code
 prim f args H v H':=C.prim f args H v H'∨(ss f=true∧qk6 args H v H')
 pprim f ts v:=C.pprim f ts v∨(cs f=true∧∃ a b,ts=[.str a,.str b]∧v = .int .i64 (Lib.compareBytes a b))∨(ln f=true∧∃ s,ts=[.str s]∧s.length≤lim∧v = .int .i64 (qqI s:Nat))

theorem qji {C:Ctx} {cs ln ss:Nat→Bool} {f:Nat} {ts:List AV} {v:AV} (h:q0m C f ts v):q0m (qab C cs ln ss) f ts v:=qq0 (C:=C) (C':=qab C cs ln ss) rfl (fun _ _ _ _ _ h=>Or.inl h) (fun _ _ _ h=>Or.inl h) h
theorem qmm {C:Ctx} {cs ln ss:Nat→Bool} {code:Nat→Option AFn} {clR clP:Nat→Option (Nat × Nat)} (h:Fits C code clR clP):Fits (qab C cs ln ss) code clR clP:=
 ⟨h.code,fun f p x H v H' h1 h2=>Or.inl (h.prim f p x H v H' h1 h2),fun f p l h1 h2 h3=>Or.inl (h.pprim f p l h1 h2 h3)⟩
section
variable {P:Program} {fid:FuncId→Option Nat} {pf:Nat→Bool} {ss:Nat→Bool}
def qso (P:Program) (fid:FuncId→Option Nat) (f:Nat):Prop:=∀ g,fid g=some f→∀ (s:ByteArray) (w:World),s.size≤lim→Calls P g #[.string s] w fun e w'=>e = .returned (.int .i64 (qqI s.data.toList:Nat))∧Bel w.heap.size w w'
def qlL (P:Program) (fid:FuncId→Option Nat) (f:Nat):Prop:=∀ g,fid g=some f→∃ ρ,SlLaysM.n6 P ρ∧ρ.f 6=g

theorem qq1 {f:Nat} (h:qso P fid f) (s:List UInt8) (hl:s.length≤lim):q2E P fid f [.str s] (.int .i64 (qqI s:Nat)):=by
 intro g hg M φ us w hargs hM htb
 obtain ⟨u0,rfl⟩ : ∃ u0,us = #[u0]:=by
  have h1:=hargs.1
  simp at h1
  obtain ⟨l⟩:=us
  match l,h1 with
  | [a],_=>exact ⟨a,rfl⟩
 have h0:VRel fid M [] φ (.str s) u0:=hargs.head
 cases h0 with
 | str t _ hs=>
  have ht:t.size≤lim:=by
   rw[←hs] at hl
   simpa using hl
  refine (h g hg t w ht).mono fun e w' he=>?_
  obtain ⟨rfl,hb⟩:=he
  rw[hs]
  refine ⟨_,rfl,M,.int _ _,fun _ _ _ h=>h,fun _ _ _ h _=>h,fun b o u hm=>?_,hb⟩
  have h1:=hM b o u hm
  have h2:=World.block_lt_of_cell? w _ h1
  rw[←h1]
  exact RowKit.Below.cell hb.toBelow h2

theorem qjM (hS : ∀ f,ss f=true→qlL P fid f) {f:Nat} {args:List AV} {H H':Heap} {v:AV} (hf:ss f=true) (h:qk6 args H v H'):q3h P fid f args H v H':=by
 intro g hg M φ B us w hargs hH hB htb
 obtain ⟨rfl,h⟩:=h
 obtain ⟨ρ,L,rfl⟩:=hS f hf g hg
 obtain ⟨u0,rfl⟩ : ∃ u0,us = #[u0]:=by
  have h1:us.size=1:=by
   have h1:=hargs.1
   rcases h with ⟨n,rfl,_⟩ | ⟨r,fam,H1,ss,rfl,_⟩<;>simpa using h1.symm
  obtain ⟨l⟩:=us
  match l,h1 with
  | [a],_=>exact ⟨a,rfl⟩
 rcases h with ⟨n,rfl,rfl⟩ | ⟨r,fam,H1,ss,rfl,hne,hlim,hr,hst,rfl⟩
 ·have h0:VRel fid M _ φ (.snil n) u0:=hargs.head
  cases h0 with
  | snil _ a=>
   refine (AnyM.slices_Sort_string_none (P:=P) (ρ:=ρ) L a 0 w).mono fun e w' he=>?_
   obtain ⟨rfl,rfl⟩:=he
   exact ⟨_,rfl,M,φ,q6a,hH,Ext.refl ..⟩
 ·have h0:VRel fid M H φ (.sref 1 r 0 ss.length) u0:=hargs.head
  have hpos:0<ss.length:=List.length_pos_iff.2 hne
  have R:=hH.row _ _ _ _ _ _ hr
  obtain ⟨cs,t,fr,hc,hsz,hfz,hcell⟩:=R.cells
  cases h0 with
  | sref _ _ _ _ cap a hc0 ha0 hp0 hsl=>
  obtain ⟨_,hsl2⟩:=hsl _ _ _ _ hr
  obtain ⟨rfl,_⟩:=hsl2 (by omega)
  have hblk:(φ r).blk<w.heap.size:=by
   rcases Nat.lt_or_ge (φ r).blk w.heap.size with h | h
   ·exact h
   ·rw[Array.getElem?_eq_none h] at hc
    cases hc
  have hHolds:Holds encStr w (φ r).blk (φ r).off ss.toArray:=by
   intro j hj
   have hj':j<ss.length:=by simpa using hj
   have hfits:=R.fits
   rw[Ka] at hfits
   refine ⟨?_,q28 hc (hfz _ (by omega))⟩
   rw[cell_of_heap hc,getElem!_pos ss.toArray j hj]
   obtain ⟨v,h2,h3⟩:=hcell j (.str ss[j]) 0 (.str ss[j]) (by rw[KH,Ki hj']; rfl) rfl
   cases h3 with
   | str s _ hs=>
    obtain ⟨d⟩:=s
    have:d=ss[j].toArray:=by rw[←hs]
    subst this
    simpa using h2
  have hmain:=AnyM.slices_Sort_string L (φ r).blk (φ r).off cap ss w hHolds hblk (by have:lim=2147483648:=rfl; omega)
  rw[Nat.zero_mul,Vs]
  refine hmain.mono fun e w' he=>?_
  obtain ⟨rfl,n,os,rfl⟩:=he
  have hlen:(q90 ss).length=ss.length:=List.length_mergeSort ..
  have hW:=hH.rewrite (els':=(q90 ss).map .str) (fl':=true) (p:=0) (us:=(q90 ss).map encStr) (vs:=(q90 ss).map .str) hr hst (by rw[Ka,hlen,Ka]; omega) ?_ (by simp [hlen]) ?_ ?_ ?_
  ·rw[Vs] at hW
   obtain ⟨hw1,hw2,hw3⟩:=hW
   have hsz2:(w.setCells (φ r).blk (φ r).off ((q90 ss).map encStr)).heap.size=w.heap.size:=by simp
   have hkey : ∀ b,b<w.heap.size→(grow (putRow encStr (Sort.ahead w n) (φ r).blk (φ r).off (q90 ss).toArray) os).heap[b]?=(w.setCells (φ r).blk (φ r).off ((q90 ss).map encStr)).heap[b]?:=fun b hb=>by
    have:=qb6 encStr w (φ r).blk (φ r).off n (q90 ss).toArray os hb
    simpa [sortWorld] using this
   have hw4:=hw1.world (w':=grow (putRow encStr (Sort.ahead w n) (φ r).blk (φ r).off (q90 ss).toArray) os) fun b hb=>hkey b (by rw[←hsz2]; exact hb)
   refine ⟨_,rfl,M,φ,q6a,hw4,fun _ _ _ h=>h,fun _ _ _ h _=>h,hw2.later,⟨⟨rfl,rfl,rfl,?_,fun k hk=>?_⟩,Nat.le_add_right _ _⟩⟩
   ·show w.heap.size≤((putRow _ (Sort.ahead w n) _ _ _).heap++os).size
    rw[Array.size_append,Go.Sort.size_putRow]
    exact Nat.le_add_right _ _
   ·have:=hkey k (by omega)
    rw[show q90 ss=ss.mergeSort fun x y=>decide (x≤y) from rfl] at this
    rw[this]
    exact hw3.block k hk
  ·refine ⟨by simp,fun i x v hx hv=>?_⟩
   rw[KH] at hx hv
   cases hdi:(q90 ss)[i]? with
   | none=>rw[hdi] at hx; cases hx
   | some z=>
    rw[hdi] at hx hv
    cases hx
    cases hv
    exact .str _ _ (by simp)
  ·have hfl : ∀ ys:List (List UInt8),Ago.flat (ys.map .str)=ys.map .str:=by
    intro ys
    induction ys with
    | nil=>rfl
    | cons y ys ih=>rw[Kd,Ago.flat,ih]; rfl
   rw[hfl,hfl,KS,Ka,hlen]
   simp
  ·intro x hx
   obtain ⟨y,_,rfl⟩:=KV.1 hx
   exact ⟨rfl,rfl⟩
  ·intro _ x hx
   obtain ⟨y,_,rfl⟩:=KV.1 hx
   rfl
end

theorem qkq {P:Program} {fid:FuncId→Option Nat} {pf:Nat→Bool} {C:Ctx} {cs ln ss:Nat→Bool} (hC:CtxOk P fid pf C) (h1 : ∀ f,cs f=true→C.code f=none∧qqH P fid f∧ln f=false∧∀ ts v,¬ C.pprim f ts v)
  (h2 : ∀ f,ln f=true→C.code f=none∧qso P fid f∧cs f=false∧∀ ts v,¬ C.pprim f ts v) (h3 : ∀ f,ss f=true→C.code f=none∧qlL P fid f∧∀ a H v H',¬ C.prim f a H v H'):CtxOk P fid pf (qab C cs ln ss):=by
 refine ⟨hC.fids,hC.coded,fun f args H v H' hp=>?_,fun f ts v hp=>?_⟩
 ·rcases hp with hp | ⟨hf,hp⟩
  ·obtain ⟨k1,k2,k3⟩:=hC.prim _ _ _ _ _ hp
   refine ⟨k1,k2,fun v2 H2 hp2=>?_⟩
   rcases hp2 with hp2 | ⟨hf,hp2⟩
   ·exact k3 _ _ hp2
   ·exact ((h3 f hf).2.2 _ _ _ _ hp).elim
  ·refine ⟨(h3 f hf).1,qjM (fun f hf=>(h3 f hf).2.1) hf hp,fun v2 H2 hp2=>?_⟩
   rcases hp2 with hp2 | ⟨_,hp2⟩
   ·exact ((h3 f hf).2.2 _ _ _ _ hp2).elim
   ·obtain ⟨rfl,hp⟩:=hp
    obtain ⟨rfl,hp2⟩:=hp2
    refine ⟨rfl,?_⟩
    rcases hp with ⟨n,rfl,rfl⟩ | ⟨r,fam,H1,zs,rfl,_,_,k4,k5,rfl⟩
    ·rcases hp2 with ⟨n',k1,rfl⟩ | ⟨r',fam',H1',zs',k1,_⟩
     ·rfl
     ·simp at k1
    ·rcases hp2 with ⟨n',k1,_⟩ | ⟨r',fam',H1',zs',k1,_,_,j4,j5,rfl⟩
     ·simp at k1
     ·simp only[List.cons.injEq,AV.sref.injEq,and_true,true_and] at k1
      obtain ⟨rfl,_⟩:=k1
      rw[k4] at j4
      simp only[Kq,Blk.row.injEq,true_and] at j4
      obtain ⟨j6,rfl⟩:=j4
      have:zs=zs':=(List.map_inj_right (fun a b h=>by injection h)).1 j6
      subst this
      rw[k5] at j5
      cases j5
      rfl
 ·rcases hp with hp | ⟨hf,a,b,rfl,rfl⟩ | ⟨hf,s,rfl,hsl,rfl⟩
  ·obtain ⟨k1,k2,k3⟩:=hC.pprim _ _ _ hp
   refine ⟨k1,k2,fun v2 hp2=>?_⟩
   rcases hp2 with hp2 | ⟨hf,_⟩ | ⟨hf,_⟩
   ·exact k3 _ hp2
   ·exact ((h1 f hf).2.2.2 _ _ hp).elim
   ·exact ((h2 f hf).2.2.2 _ _ hp).elim
  ·refine ⟨(h1 f hf).1,qpi (h1 f hf).2.1 a b,fun v2 hp2=>?_⟩
   rcases hp2 with hp2 | ⟨_,a',b',k1,rfl⟩ | ⟨hl,_⟩
   ·exact ((h1 f hf).2.2.2 _ _ hp2).elim
   ·cases k1
    rfl
   ·rw[(h1 f hf).2.2.1] at hl
    cases hl
  ·refine ⟨(h2 f hf).1,qq1 (h2 f hf).2.1 s hsl,fun v2 hp2=>?_⟩
   rcases hp2 with hp2 | ⟨hl,_⟩ | ⟨_,s',k1,_,rfl⟩
   ·exact ((h2 f hf).2.2.2 _ _ hp2).elim
   ·rw[(h2 f hf).2.2.1] at hl
    cases hl
   ·cases k1
    rfl
end Ago
namespace Ago
open Go Go.Proofs Go.Shelf
variable {uT:Unit} [TabC uT]

def qeu (C:Ctx) (pp:Nat→Option (List AV→Option AV)):Ctx where
 code:=C.code
 prim:=C.prim
 pprim f ts v:=C.pprim f ts v∨∃ F,pp f=some F∧F ts=some v
theorem qjk {C:Ctx} {pp:Nat→Option (List AV→Option AV)} {f:Nat} {ts:List AV} {v:AV} (h:q0m C f ts v):q0m (qeu C pp) f ts v:=qkI (C:=C) (C':=qeu C pp) (fun _ _ h=>h) (fun _ _ _ _ _ h=>h) (fun _ _ _ h=>Or.inl h) h
theorem qkB {C:Ctx} {pp:Nat→Option (List AV→Option AV)} {f:Nat} {F:List AV→Option AV} {ts:List AV} {v:AV} (hf:pp f=some F) (h:F ts=some v):q0m (qeu C pp) f ts v:=.pprim (Or.inr ⟨F,hf,h⟩)
section
variable {P:Program} {fid:FuncId→Option Nat} {pf:Nat→Bool}
def qqE (P:Program) (fid:FuncId→Option Nat) (f:Nat) (F:List AV→Option AV):Prop:=∀ ts v,F ts=some v→q2E P fid f ts v
theorem qlp {C:Ctx} {pp:Nat→Option (List AV→Option AV)} (hC:CtxOk P fid pf C) (h : ∀ f F,pp f=some F→C.code f=none∧qqE P fid f F∧∀ ts v,¬ C.pprim f ts v):CtxOk P fid pf (qeu C pp):=by
 refine ⟨hC.fids,hC.coded,hC.prim,fun f ts v hp=>?_⟩
 rcases hp with hp | ⟨F,hf,hp⟩
 ·obtain ⟨k1,k2,k3⟩:=hC.pprim _ _ _ hp
  refine ⟨k1,k2,fun v2 hp2=>?_⟩
  rcases hp2 with hp2 | ⟨F,hf,_⟩
  ·exact k3 _ hp2
  ·exact ((h f F hf).2.2 _ _ hp).elim
 ·refine ⟨(h f F hf).1,(h f F hf).2.1 ts v hp,fun v2 hp2=>?_⟩
  rcases hp2 with hp2 | ⟨F2,hf2,hp2⟩
  ·exact ((h f F hf).2.2 _ _ hp2).elim
  ·rw[hf] at hf2
   cases hf2
   rw[hp] at hp2
   cases hp2
   rfl

end
end Ago
namespace Ago
def qfM (mids:List AOper) (o:List Nat):List AOper:=o.map fun i=>mids.getD i ⟨none,.bad,[],none⟩
section
variable {R:Nat→List AV→Heap→AV→Heap→Prop} {PR:Nat→List AV→AV→Prop}
@[go_sem] theorem qp7 (mids:List AOper):qfM mids []=[]:=(rfl)
@[go_sem] theorem qou (mids:List AOper) (i:Nat) (o:List Nat):qfM mids (i::o)=mids.getD i ⟨none,.bad,[],none⟩::qfM mids o:=(rfl)
end
def quG:List AV→Option AV
 | []=>some (.bool true)
 | _=>none
end Ago
namespace Ago
open Go Go.Proofs Go.Sort Go.Shelf
variable {uT:Unit} [TabC uT]

abbrev SortT (fid:FuncId→Option Nat) (M:Mem) (φ:Nat→Loc) (els:List AV) (k:Nat):={p:AV × List Value // p.2.length=k∧p.1∈els∧VRels fid M [] φ p.1.cells p.2∧∀ v,v∈p.2→v.oneCell'=true}
def SortT.enc (fid:FuncId→Option Nat) (M:Mem) (φ:Nat→Loc) (els:List AV) (k:Nat) (x:SortT fid M φ els k):List Value:=x.1.2
section
variable {P:Program} {fid:FuncId→Option Nat} {pf:Nat→Bool}
set_option maxHeartbeats 1000000 in
end
end Ago
namespace Ago
open Go
variable {uT:Unit} [TabC uT]
section
variable {P:Program} {fid:FuncId→Option Nat}
end
end Ago
namespace Ago
open Go
variable {uT:Unit} [TabC uT]
def q6A (C:Ctx) (f0:Nat) (L:List AV→Heap→AV→Heap→Prop):Ctx where
 code:=C.code
 prim f a H v H':=C.prim f a H v H'∨(f=f0∧L a H v H')
 pprim:=C.pprim
theorem q25 {C:Ctx} {f0:Nat} {L:List AV→Heap→AV→Heap→Prop} {j:J} (h:BS C j):BS (q6A C f0 L) j:=qkI (C:=C) (C':=q6A C f0 L) (fun _ _ h=>h) (fun _ _ _ _ _ h=>Or.inl h) (fun _ _ _ h=>h) h
theorem qg2 {C:Ctx} {f0:Nat} {L:List AV→Heap→AV→Heap→Prop} {a:List AV} {H H':Heap} {v:AV} (h:L a H v H'):q1z (q6A C f0 L) f0 a H v H':=.prim (Or.inr ⟨rfl,h⟩)
theorem q9P {P:Program} {fid:FuncId→Option Nat} {pf:Nat→Bool} {C:Ctx} {f0:Nat} {L:List AV→Heap→AV→Heap→Prop} (hC:CtxOk P fid pf C) (h0:C.code f0=none) (hp : ∀ a H v H',¬ C.prim f0 a H v H')
  (hs : ∀ a H v H',L a H v H'→q3h P fid f0 a H v H') (hd : ∀ a H v H' v2 H2,L a H v H'→L a H v2 H2→v2=v∧H2=H'):CtxOk P fid pf (q6A C f0 L) where
 fids:=hC.fids
 coded:=hC.coded
 prim f a H v H' h:=by
  rcases h with h | ⟨rfl,h⟩
  ·obtain ⟨h1,h2,h3⟩:=hC.prim f a H v H' h
   refine ⟨h1,h2,fun v2 H2 h'=>?_⟩
   rcases h' with h' | ⟨rfl,_⟩
   ·exact h3 v2 H2 h'
   ·exact absurd h (hp _ _ _ _)
  ·refine ⟨h0,hs _ _ _ _ h,fun v2 H2 h'=>?_⟩
   rcases h' with h' | ⟨_,h'⟩
   ·exact absurd h' (hp _ _ _ _)
   ·exact hd _ _ _ _ _ _ h h'
 pprim:=hC.pprim
end Ago
