/- Steps of the model draw no less: of a call that a contract tells, the world behind it has drawn no less. -/
import Derived.Test.YtfnplmbkabdgoaaGreatDoorMachD
import Derived.Calls
import Derived.RunT
import Derived.StepT
import Derived.Test.YtfnplmbkabdgoaaGreatDoorMachG
import Derived.Shelf.Small.Strs
import Derived.Test.YtfnplmbkabdgoaaGreatDoorMachE
import Derived.Shelf.Strings.Repeat
set_option linter.unusedSimpArgs false
set_option linter.unusedVariables false
namespace Ago
open Go
def sDr (n : Nat) : Stepped → Prop
  | .next m => n ≤ m.world.drawn
  | .ended _ _ => True
def gDr (n : Nat) : GStep → Prop
  | .go _ w _ | .comm _ _ _ _ w _ | .spawn _ _ w _ | .count _ w _ | .timer _ _ w _ | .alone _ _ w _ | .newcoro _ _ _ w _ | .coroswitch _ _ _ w _ | .collect _ w _ | .watch _ w _ => n ≤ w.drawn
  | .ended _ _ _ => True
theorem gDr_after {n : Nat} (es : Array Event) (s : GStep) (h : gDr n s) : gDr n (GStep.after es s) := by
  cases s <;> exact h
theorem runT_drawn {α : Type} {P : Program} (s : Sem α) (w : World) (es es' : Array Event) {a : α} {w' : World} (h : s.runT P w es = (.ok a w', es')) : w.drawn ≤ w'.drawn :=
  sem_drawn s w (by rw [← Sem.runT_fst P s w es, h])

/-- A run, whatever comes of it. -/
def rDr (n : Nat) {α : Type} : Result α → Prop
  | .ok _ w => n ≤ w.drawn
  | .halt _ w => n ≤ w.drawn
theorem sem_rDr {α : Type} {P : Program} (s : Sem α) : ∀ (w : World), rDr w.drawn (s.run P w) := by
  have le : ∀ {n m : Nat} {r : Result α}, n ≤ m → rDr m r → rDr n r := by
    intro n m r h k
    cases r <;> exact Nat.le_trans h k
  induction s with
  | pure a => intro w; exact Nat.le_refl _
  | load m a k ih =>
    intro w
    simp only [Sem.run]
    split
    · exact ih _ _
    · split
      · exact ih _ _
      · exact Nat.le_refl _
  | store m a v k ih =>
    intro w
    have fin : rDr w.drawn (match w.cell? a with
      | some _ => if w.frozen? a then Result.halt (.unsupported (.unsafePointer "a write to bytes that a string shares")) w else k.run P (w.setCell a v)
      | none => match w.farStore P a v (m == Mode.atomic) with
        | .ok (w, _) => k.run P w
        | .error h => .halt h w) := by
      split
      · split
        · exact Nat.le_refl _
        · exact ih (w.setCell a v)
      · split
        · rename_i e
          exact le (Nat.le_of_eq (farStore_drawn e).symm) (ih _)
        · exact Nat.le_refl _
    cases v with
    | agg _ => simp only [Sem.run]; exact Nat.le_refl _
    | tuple _ => simp only [Sem.run]; exact Nat.le_refl _
    | _ =>
      simp only [Sem.run]
      exact fin
  | new o k ih =>
    intro w
    simp only [Sem.run]
    exact ih _ _
  | shape r k ih =>
    intro w
    simp only [Sem.run]
    exact ih _ _
  | freeze a n k ih =>
    intro w
    simp only [Sem.run]
    refine le ?_ (ih _)
    unfold World.freeze
    split <;> exact Nat.le_refl _
  | frozen a k ih =>
    intro w
    simp only [Sem.run]
    exact ih _ _
  | getObj r k ih =>
    intro w
    simp only [Sem.run]
    split
    · exact Nat.le_refl _
    · exact ih _ _
    · exact Nat.le_refl _
  | setObj r o k ih =>
    intro w
    simp only [Sem.run]
    split
    · exact Nat.le_refl _
    · exact ih _
    · exact Nat.le_refl _
  | choose q k ih =>
    intro w
    simp only [Sem.run]
    split
    · exact ih _ _
    · exact le (Nat.le_succ _) (ih _ _)
  | sys c k ih =>
    intro w
    simp only [Sem.run]
    exact le (sys_drawn c w) (ih _ _)
  | program k ih =>
    intro w
    simp only [Sem.run]
    exact ih _ _
  | mark m k ih =>
    intro w
    simp only [Sem.run]
    exact ih _
  | halt e =>
    intro w
    simp only [Sem.run]
    exact Nat.le_refl _
theorem runTh_drawn {α : Type} {P : Program} (s : Sem α) (w : World) (es es' : Array Event) {e : Halt} {w' : World} (h : s.runT P w es = (.halt e w', es')) : w.drawn ≤ w'.drawn := by
  have := sem_rDr (P := P) s w
  rw [← Sem.runT_fst P s w es, h] at this
  exact this
theorem halt_drawn {α : Type} {P : Program} (s : Sem α) (w : World) {e : Halt} {w' : World} (h : s.run P w = .halt e w') : w.drawn ≤ w'.drawn := by
  have := sem_rDr (P := P) s w
  rw [h] at this
  exact this
theorem pair_ok {α : Type} {P : Program} {s : Sem α} {w : World} {es es' : Array Event} {a : α} {w' : World} (h : (s.run P w, es) = (.ok a w', es')) : w.drawn ≤ w'.drawn := sem_drawn s w (Prod.mk.inj h).1
theorem pair_halt {α : Type} {P : Program} {s : Sem α} {w : World} {es es' : Array Event} {e : Halt} {w' : World} (h : (s.run P w, es) = (.halt e w', es')) : w.drawn ≤ w'.drawn := halt_drawn s w (Prod.mk.inj h).1
theorem elim_dr {α : Type} {n : Nat} {o : Option α} {a : GStep} {f : α → GStep} (h : gDr n a) (k : ∀ x, gDr n (f x)) : gDr n (o.elim a f) := by
  cases o
  · exact h
  · exact k _
theorem gDr_le {n m : Nat} (h : n ≤ m) {s : GStep} (k : gDr m s) : gDr n s := by
  cases s <;> first | exact trivial | exact Nat.le_trans h k
theorem sDr_le {n m : Nat} (h : n ≤ m) {s : Stepped} (k : sDr m s) : sDr n s := by
  cases s <;> first | exact trivial | exact Nat.le_trans h k
theorem dieOf_dr (fr : Frame) (a : List ByteArray) (m : String) (b : Bool) (w : World) : gDr w.drawn (dieOf fr a m b w) := Nat.le_refl _
theorem endWith_dr (w : World) (fd : Nat) (t : ByteArray) (o : Outcome) (n : Nat) : gDr n (endWith w fd t o) := by
  unfold endWith
  simp only []
  repeat' first
    | exact trivial
    | exact Nat.le_refl _
    | exact sem_drawn _ _ (by assumption)
    | exact halt_drawn _ _ (by assumption)
    | exact runT_drawn _ _ _ _ (by assumption)
    | exact runTh_drawn _ _ _ _ (by assumption)
    | (have h := sem_drawn _ _ (by assumption); exact h)
    | exact pair_ok (by assumption)
    | exact pair_halt (by assumption)
    | refine gDr_after _ _ ?_
    | split
theorem endPrinting_dr (p : Program) (fr : Frame) (v : Value) (w : World) : gDr w.drawn (endPrinting p fr v w) := by
  unfold endPrinting
  simp only []
  repeat' first
    | exact trivial
    | exact Nat.le_refl _
    | exact sem_drawn _ _ (by assumption)
    | exact halt_drawn _ _ (by assumption)
    | exact runT_drawn _ _ _ _ (by assumption)
    | exact runTh_drawn _ _ _ _ (by assumption)
    | (have h := sem_drawn _ _ (by assumption); exact h)
    | exact pair_ok (by assumption)
    | exact pair_halt (by assumption)
    | refine gDr_after _ _ ?_
    | split
theorem endFatal_dr (p : Program) (fr : Frame) (c : List Frame) (d : Option Dying) (m : String) (w : World) : gDr w.drawn (endFatal p fr c d m w) := by
  unfold endFatal
  simp only []
  repeat' first
    | exact trivial
    | exact Nat.le_refl _
    | exact sem_drawn _ _ (by assumption)
    | exact halt_drawn _ _ (by assumption)
    | exact runT_drawn _ _ _ _ (by assumption)
    | exact runTh_drawn _ _ _ _ (by assumption)
    | (have h := sem_drawn _ _ (by assumption); exact h)
    | exact pair_ok (by assumption)
    | exact pair_halt (by assumption)
    | refine gDr_after _ _ ?_
    | split
theorem writeOn_dr (p : Program) (fr : Frame) (d : Dying) (f : Fatal) (w : World) : gDr w.drawn (writeOn p fr d f w) := by
  unfold writeOn
  simp only [Sem.runT_eq]
  repeat' first
    | exact trivial
    | exact Nat.le_refl _
    | exact sem_drawn _ _ (by assumption)
    | exact halt_drawn _ _ (by assumption)
    | exact runT_drawn _ _ _ _ (by assumption)
    | exact runTh_drawn _ _ _ _ (by assumption)
    | (have h := sem_drawn _ _ (by assumption); exact h)
    | exact pair_ok (by assumption)
    | exact pair_halt (by assumption)
    | refine gDr_after _ _ ?_
    | split
theorem doReturn_dr (p : Program) (main : Bool) (fr : Frame) (callers : List Frame) (dying : Option Dying) (v : Value) (w : World) : gDr w.drawn (doReturn p main fr callers dying v w) := by
  unfold doReturn
  simp only []
  repeat' first
    | exact trivial
    | exact Nat.le_refl _
    | exact sem_drawn _ _ (by assumption)
    | exact halt_drawn _ _ (by assumption)
    | exact runT_drawn _ _ _ _ (by assumption)
    | exact runTh_drawn _ _ _ _ (by assumption)
    | (have h := sem_drawn _ _ (by assumption); exact h)
    | exact pair_ok (by assumption)
    | exact pair_halt (by assumption)
    | refine gDr_after _ _ ?_
    | split
theorem die_dr (p : Program) (fr : Frame) (d : Dying) (w : World) : gDr w.drawn (die p fr d w) := by
  unfold die
  simp only [Sem.runT_eq]
  repeat' first
    | exact trivial
    | exact Nat.le_refl _
    | exact writeOn_dr ..
    | exact endWith_dr ..
    | exact sem_drawn _ _ (by assumption)
    | exact halt_drawn _ _ (by assumption)
    | exact gDr_le (sem_drawn _ _ (by assumption)) (endPrinting_dr ..)
    | exact gDr_le (halt_drawn _ _ (by assumption)) (endPrinting_dr ..)
    | exact gDr_le (halt_drawn _ _ (by assumption)) (endFatal_dr ..)
    | exact gDr_le (halt_drawn _ _ (by assumption)) (dieOf_dr ..)
    | refine gDr_after _ _ ?_
    | split
theorem early_dr (p : Program) (fr : Frame) (callers : List Frame) (dying : Option Dying) (g : Nat) (w : World) : gDr w.drawn (early p fr callers dying g w) := by
  unfold early
  simp only []
  repeat' first
    | exact trivial
    | exact Nat.le_refl _
    | exact sem_drawn _ _ (by assumption)
    | exact halt_drawn _ _ (by assumption)
    | exact runT_drawn _ _ _ _ (by assumption)
    | exact runTh_drawn _ _ _ _ (by assumption)
    | (have h := sem_drawn _ _ (by assumption); exact h)
    | exact pair_ok (by assumption)
    | exact pair_halt (by assumption)
    | refine gDr_after _ _ ?_
    | split
theorem callDeferred_dr (p : Program) (fr : Frame) (callers : List Frame) (dying : Option Dying) (d : Deferred) (w : World) : gDr w.drawn (callDeferred p fr callers dying d w) := by
  unfold callDeferred
  simp only [Sem.runT_eq]
  repeat' first
    | exact trivial
    | exact Nat.le_refl _
    | exact endPrinting_dr ..
    | exact doReturn_dr ..
    | exact callDeferred_dr ..
    | exact sem_drawn _ _ (by assumption)
    | exact halt_drawn _ _ (by assumption)
    | exact gDr_le (sem_drawn _ _ (by assumption)) (doReturn_dr ..)
    | exact gDr_le (sem_drawn _ _ (by assumption)) (dieOf_dr ..)
    | exact gDr_le (halt_drawn _ _ (by assumption)) (endFatal_dr ..)
    | exact gDr_le (halt_drawn _ _ (by assumption)) (dieOf_dr ..)
    | exact gDr_le (halt_drawn _ _ (by assumption)) (early_dr ..)
    | refine gDr_after _ _ ?_
    | split
theorem unwind_dr (p : Program) (main : Bool) (fr : Frame) (callers : List Frame) (dying : Option Dying) (w : World) : gDr w.drawn (unwind p main fr callers dying w) := by
  unfold unwind
  simp only [Sem.runT_eq]
  repeat' first
    | exact trivial
    | exact Nat.le_refl _
    | exact endPrinting_dr ..
    | exact doReturn_dr ..
    | exact callDeferred_dr ..
    | exact sem_drawn _ _ (by assumption)
    | exact halt_drawn _ _ (by assumption)
    | exact gDr_le (sem_drawn _ _ (by assumption)) (doReturn_dr ..)
    | exact gDr_le (sem_drawn _ _ (by assumption)) (dieOf_dr ..)
    | exact gDr_le (halt_drawn _ _ (by assumption)) (endFatal_dr ..)
    | exact gDr_le (halt_drawn _ _ (by assumption)) (dieOf_dr ..)
    | exact gDr_le (halt_drawn _ _ (by assumption)) (early_dr ..)
    | refine gDr_after _ _ ?_
    | split
theorem apply_dr (p : Program) (listen : Bool) (fr : Frame) (callers : List Frame) (dying : Option Dying) (s : Sem Next) (w : World) : gDr w.drawn (stepG.apply p listen fr callers dying s w) := by
  unfold stepG.apply
  cases listen <;> simp only [Sem.runT_eq, Bool.false_eq_true, if_true, if_false]
  all_goals
    repeat' first
      | exact trivial
      | exact Nat.le_refl _
      | exact endPrinting_dr ..
      | exact doReturn_dr ..
      | exact callDeferred_dr ..
      | exact sem_drawn _ _ (by assumption)
      | exact halt_drawn _ _ (by assumption)
      | exact gDr_le (sem_drawn _ _ (by assumption)) (doReturn_dr ..)
      | exact gDr_le (sem_drawn _ _ (by assumption)) (dieOf_dr ..)
      | exact gDr_le (halt_drawn _ _ (by assumption)) (endFatal_dr ..)
      | exact gDr_le (halt_drawn _ _ (by assumption)) (dieOf_dr ..)
      | exact gDr_le (halt_drawn _ _ (by assumption)) (early_dr ..)
      | refine gDr_after _ _ ?_
      | split
theorem oper_dr (p : Program) (listen : Bool) (fr : Frame) (callers : List Frame) (dying : Option Dying) (w : World) : gDr w.drawn (stepG.oper p listen fr callers dying w) := by
  unfold stepG.oper
  repeat' first
    | exact trivial
    | exact apply_dr ..
    | split
theorem exec_dr (p : Program) (main listen : Bool) (fr : Frame) (callers : List Frame) (dying : Option Dying) (w : World) : gDr w.drawn (stepG.exec p main listen fr callers dying w) := by
  unfold stepG.exec
  simp only [Sem.runT_eq]
  repeat' first
    | exact trivial
    | exact Nat.le_refl _
    | exact apply_dr ..
    | exact oper_dr ..
    | exact sem_drawn _ _ (by assumption)
    | exact halt_drawn _ _ (by assumption)
    | exact gDr_le (sem_drawn _ _ (by assumption)) (doReturn_dr ..)
    | exact gDr_le (sem_drawn _ _ (by assumption)) (apply_dr ..)
    | refine elim_dr ?_ (fun _ => ?_)
    | refine gDr_after _ _ ?_
    | split
theorem stepG_dr (p : Program) (main : Bool) (g : Goroutine) (w : World) (listen : Bool) : gDr w.drawn (stepG p main g w listen) := by
  unfold stepG
  simp only []
  repeat' first
    | exact die_dr ..
    | exact exec_dr ..
    | exact unwind_dr ..
    | split
theorem waitingAt_dr {rest : Rest} {cases : Array CommCase} {w w' : World} (h : waitingAt rest cases w = some w') : w.drawn ≤ w'.drawn := by
  unfold waitingAt at h
  repeat' first
    | (simp at h; done)
    | (cases h; exact Nat.le_refl _)
    | split at h
theorem throw_dr {fr : Frame} {m : String} {w w' : World} {g : Goroutine} {es : Array Event} (h : endThrow fr m w = .go g w' es) : w.drawn ≤ w'.drawn := by
  have := dieOf_dr fr [] m false w
  rw [show dieOf fr [] m false w = endThrow fr m w from rfl, h] at this
  exact this
theorem communicate_dr (p : Program) (rest : Rest) (gs : Array Goroutine) (i : Nat) (g : Goroutine) (cases : Array CommCase) (blocking : Bool) (shape : CommShape) (w : World) : sDr w.drawn (communicate p rest gs i g cases blocking shape w).1 := by
  unfold communicate
  simp only []
  repeat' first
    | exact trivial
    | exact Nat.le_refl _
    | exact sem_drawn _ _ (by assumption)
    | exact halt_drawn _ _ (by assumption)
    | (have h := sem_drawn _ _ (by assumption); exact h)
    | exact waitingAt_dr (by assumption)
    | (have h := sem_drawn _ _ (by assumption); exact Nat.le_trans (sem_drawn _ _ (by assumption)) h)
    | exact Nat.le_trans (sem_drawn _ _ (by assumption)) (halt_drawn _ _ (by assumption))
    | exact Nat.le_trans (sem_drawn _ _ (by assumption)) (sem_drawn _ _ (by assumption))
    | split
theorem look_dr (p : Program) (gs : Array Goroutine) (rest : Rest) (w : World) : sDr w.drawn (look p gs rest w) := by
  unfold look
  simp only []
  repeat' first
    | exact trivial
    | exact Nat.le_refl _
    | exact sem_drawn _ _ (by assumption)
    | (have h := sem_drawn _ _ (by assumption); exact h)
    | split
theorem serve_dr (p : Program) (m : Machine) (k : Nat) : sDr m.world.drawn (serve p m k) := by
  unfold serve
  simp only []
  repeat' first
    | exact trivial
    | exact Nat.le_refl _
    | split
theorem drain_dr (w : World) (c : Nat) : (drain w c).2.drawn = w.drawn := by
  unfold drain
  split <;> rfl
theorem retime_dr (m : Machine) (k : Nat) (t : Timer) (a b : Nat) : (retime m k t a b).2.world.drawn = m.world.drawn := by
  unfold retime
  cases t.chan with
  | none => rfl
  | some c => exact drain_dr m.world c
theorem opened_dr {m m' : Machine} {var : Addr} (h : timerOp.opened m var = some m') : m'.world.drawn = m.world.drawn := by
  unfold timerOp.opened at h
  repeat' first
    | (simp at h; done)
    | (cases h; rfl)
    | split at h
theorem timerOp_dr (m : Machine) (op : TimerOp) {v : Value} {m' : Machine} (h : timerOp m op = .ok (v, m')) : m'.world.drawn = m.world.drawn := by
  unfold timerOp at h
  simp only [] at h
  repeat' first
    | (simp at h; done)
    | (simp only [Except.ok.injEq, Prod.mk.injEq] at h; obtain ⟨_, rfl⟩ := h; rfl)
    | (unfold timerOp.named at h)
    | (simp only [Except.ok.injEq] at h; have := congrArg (fun x => x.2.world.drawn) h; simp only [retime_dr] at this; first | exact this.symm | exact this.symm.trans (opened_dr (by assumption)))
    | split at h
theorem rT_dr (p : Program) (m : Machine) (i : Nat) (b : Bool) : sDr m.world.drawn (runT p m i b).1 := by
  simp only [runT]
  generalize m.gs.swapAt! _ _ = gg
  have hs := stepG_dr p (i == 0) gg.1 m.world b
  revert hs
  generalize stepG p _ gg.1 m.world b = s
  intro hs
  cases s <;> simp only []
  all_goals first
    | exact trivial
    | exact hs
    | exact sDr_le hs (communicate_dr ..)
    | exact sDr_le hs (look_dr ..)
    | (repeat' first
        | exact trivial
        | exact hs
        | (have h := timerOp_dr _ _ (by assumption); exact Nat.le_trans hs (Nat.le_of_eq h.symm))
        | exact Nat.le_trans hs (throw_dr (by assumption))
        | split)
theorem advance_dr (m : Machine) (t : Nat) : (m.advanceTo t).world.drawn = m.world.drawn := rfl
def mDr (n : Nat) : Move → Prop
  | .goroutine m _ => n ≤ m.world.drawn
  | .machine s _ => sDr n s
theorem mDr_le {n m : Nat} (h : n ≤ m) {s : Move} (k : mDr m s) : mDr n s := by
  cases s
  · exact Nat.le_trans h k
  · exact sDr_le h k
theorem askOn_dr (p : Program) (m : Machine) : mDr m.world.drawn (askOn p m) := by
  unfold askOn
  simp only []
  repeat' first
    | exact trivial
    | exact Nat.le_refl _
    | exact sem_drawn _ _ (by assumption)
    | (have h := sem_drawn _ _ (by assumption); exact h)
    | (have h := sem_drawn _ _ (by assumption); exact Nat.le_trans (sem_drawn _ _ (by assumption)) h)
    | exact sDr_le (sem_drawn _ _ (by assumption)) (serve_dr p { m with world := _ } _)
    | simp only [advance_dr]
    | refine Nat.le_trans ?_ (sem_drawn _ _ (by assumption))
    | split
theorem ask_dr (p : Program) (m : Machine) : mDr m.world.drawn (ask p m) := by
  unfold ask
  split
  · split
    · exact trivial
    · have h := sem_drawn _ _ (by assumption)
      rename_i w _
      have k := look_dr p m.gs m.rest w
      split
      · rename_i heq
        rw [heq] at k
        exact mDr_le (Nat.le_trans h k) (askOn_dr ..)
      · exact sDr_le h k
    · have h := sem_drawn _ _ (by assumption)
      exact mDr_le h (askOn_dr p { m with world := _ })
  · exact askOn_dr ..
theorem move_dr (p : Program) (m : Machine) : mDr m.world.drawn (move p m) := by
  unfold move
  repeat' first
    | exact trivial
    | exact Nat.le_refl _
    | exact ask_dr p m
    | exact ask_dr p { m with rest := _ }
    | split
theorem step_dr (p : Program) (m : Machine) : sDr m.world.drawn (step p m) := by
  have h := move_dr p m
  unfold step stepT
  cases hm : move p m with
  | goroutine m' i =>
    rw [hm] at h
    exact sDr_le h (rT_dr p m' i true)
  | machine s ops =>
    rw [hm] at h
    exact h
theorem steps_dr {p : Program} {m m' : Machine} (h : Steps p m m') : m.world.drawn ≤ m'.world.drawn := by
  obtain ⟨n, hn⟩ := h
  induction n generalizing m with
  | zero =>
    simp only [runN] at hn
    cases hn
    exact Nat.le_refl _
  | succ n ih =>
    simp only [runN] at hn
    have k := step_dr p m
    cases hs : step p m with
    | next m1 =>
      rw [hs] at hn k
      exact Nat.le_trans k (ih hn)
    | ended o w =>
      rw [hs] at hn
      cases hn
/-- What a contract tells of a call that returns, with what it draws. -/
theorem calls_bel {P : Program} {f : FuncId} {args : Array Value} {w : World} {B : Nat} {v : Value} (h : Calls P f args w fun e w' => e = .returned v ∧ RowKit.Below B w w') :
    Calls P f args w fun e w' => e = .returned v ∧ Bel B w w' := by
  intro cs
  obtain ⟨e, w', fr, ⟨rfl, hB⟩, hc, hf, hl⟩ := h cs
  exact ⟨_, w', fr, ⟨rfl, hB, steps_dr hc⟩, hc, hf, hl⟩
end Ago
/- The library's comparison of strings, taken as it is. -/
namespace Ago
open Go Go.Proofs Go.Shelf
section
variable {P : Program} {fid : FuncId → Option Nat} {pf : Nat → Bool}
def CmpAt (P : Program) (fid : FuncId → Option Nat) (f : Nat) : Prop := ∀ g, fid g = some f → ∃ ρ, Lays.n213 P ρ ∧ ρ.f 213 = g
theorem cmp_sim {f : Nat} (h : CmpAt P fid f) (a b : List UInt8) : SimPure P fid f [.str a, .str b] (.int .i64 (Lib.compareBytes a b)) := by
  intro g hg M φ us w hargs hM
  obtain ⟨ρ, L, rfl⟩ := h g hg
  obtain ⟨u0, u1, rfl⟩ : ∃ u0 u1, us = #[u0, u1] := by
    have h1 := hargs.1
    simp at h1
    obtain ⟨l⟩ := us
    match l, h1 with
    | [a, b], _ => exact ⟨a, b, rfl⟩
  have h0 : VRel fid M [] φ (.str a) u0 := hargs.head
  have h1 : VRel fid M [] φ (.str b) u1 := hargs.tail.head
  cases h0 with
  | str s _ hs =>
    cases h1 with
    | str t _ ht =>
      refine (Any.bytealg_CompareString L s t w).mono fun e w' he => ?_
      obtain ⟨rfl, rfl⟩ := he
      rw [hs, ht]
      exact ⟨_, rfl, M, .int _ _, fun _ _ _ h => h, fun _ _ _ h _ => h, hM, Bel.refl _ _⟩
end
end Ago
/- Functions that are taken as they are, each by what it answers: strings.Repeat, the comparison of strings. -/
namespace Ago
open Go Go.Proofs Go.Shelf

/-- A machine with such functions. -/
def funCtx (C : Ctx) (pp : Nat → Option (List AV → Option AV)) : Ctx where
  code := C.code
  prim := C.prim
  pprim f ts v := C.pprim f ts v ∨ ∃ F, pp f = some F ∧ F ts = some v
/-- What a machine does, one that takes more does too. -/
theorem funCtx_up {C : Ctx} {pp : Nat → Option (List AV → Option AV)} {f : Nat} {ts : List AV} {v : AV} (h : PRun C f ts v) : PRun (funCtx C pp) f ts v := bs_ext (C := C) (C' := funCtx C pp) (fun _ _ h => h) (fun _ _ _ _ _ h => h) (fun _ _ _ h => Or.inl h) h
theorem fits_fun {C : Ctx} {pp : Nat → Option (List AV → Option AV)} {code : Nat → Option AFn} {clR clP : Nat → Option (Nat × Nat)} (h : Fits C code clR clP) : Fits (funCtx C pp) code clR clP :=
  ⟨h.code, h.prim, fun f p l h1 h2 h3 => Or.inl (h.pprim f p l h1 h2 h3)⟩
theorem fun_run {C : Ctx} {pp : Nat → Option (List AV → Option AV)} {f : Nat} {F : List AV → Option AV} {ts : List AV} {v : AV} (hf : pp f = some F) (h : F ts = some v) : PRun (funCtx C pp) f ts v := .pprim (Or.inr ⟨F, hf, h⟩)
def orF (pp : Nat → Option (List AV → Option AV)) (l : List (Nat × List AV × AV)) (f : Nat) (ts : List AV) : Option AV :=
  match pp f with
  | some F => F ts
  | none => orT l f ts
section
variable {P : Program} {fid : FuncId → Option Nat} {pf : Nat → Bool}
def FunAt (P : Program) (fid : FuncId → Option Nat) (f : Nat) (F : List AV → Option AV) : Prop := ∀ ts v, F ts = some v → SimPure P fid f ts v
theorem funCtx_ok {C : Ctx} {pp : Nat → Option (List AV → Option AV)} (hC : CtxOk P fid pf C) (h : ∀ f F, pp f = some F → C.code f = none ∧ FunAt P fid f F ∧ ∀ ts v, ¬ C.pprim f ts v) : CtxOk P fid pf (funCtx C pp) := by
  refine ⟨hC.fids, hC.coded, hC.prim, fun f ts v hp => ?_⟩
  rcases hp with hp | ⟨F, hf, hp⟩
  · obtain ⟨k1, k2, k3⟩ := hC.pprim _ _ _ hp
    refine ⟨k1, k2, fun v2 hp2 => ?_⟩
    rcases hp2 with hp2 | ⟨F, hf, _⟩
    · exact k3 _ hp2
    · exact ((h f F hf).2.2 _ _ hp).elim
  · refine ⟨(h f F hf).1, (h f F hf).2.1 ts v hp, fun v2 hp2 => ?_⟩
    rcases hp2 with hp2 | ⟨F2, hf2, hp2⟩
    · exact ((h f F hf).2.2 _ _ hp2).elim
    · rw [hf] at hf2
      cases hf2
      rw [hp] at hp2
      cases hp2
      rfl

/-- strings.Repeat. -/
def repF : List AV → Option AV
  | [.str s, .int .i64 (.ofNat c)] => if s.length * c ≤ 2147483648 ∧ c ≤ 2147483648 then some (.str (Lib.repeatL s c)) else none
  | _ => none
theorem repF_eq (s : List UInt8) (c : Nat) (h : s.length * c ≤ 2147483648) (h2 : c ≤ 2147483648) : repF [.str s, .int .i64 c] = some (.str (Lib.repeatL s c)) := by
  show (if s.length * c ≤ 2147483648 ∧ c ≤ 2147483648 then some (AV.str (Lib.repeatL s c)) else none) = _
  rw [if_pos ⟨h, h2⟩]
def RepAt (P : Program) (fid : FuncId → Option Nat) (f : Nat) : Prop := ∀ g, fid g = some f → ∃ ρ, Lays.n105 P ρ ∧ Builder.Extra P ρ ∧ ρ.f 105 = g
theorem mem_bel {fid : FuncId → Option Nat} {M : Mem} {w w' : World} (hM : ∀ b o u, M b o = some u → w.cell? ⟨b, o, none⟩ = some u) (hb : Bel w.heap.size w w') : ∀ b o u, M b o = some u → w'.cell? ⟨b, o, none⟩ = some u := fun b o u hm => by
  have h1 := hM b o u hm
  have h2 := World.block_lt_of_cell? w _ h1
  rw [← h1]
  exact RowKit.Below.cell hb.toBelow h2
theorem rep_at {f : Nat} (h : RepAt P fid f) : FunAt P fid f repF := by
  intro ts v hv g hg M φ us w hargs hM
  obtain ⟨ρ, L, X, rfl⟩ := h g hg
  unfold repF at hv
  split at hv
  · rename_i s c
    split at hv
    · rename_i hc
      cases hv
      obtain ⟨u0, u1, rfl⟩ : ∃ u0 u1, us = #[u0, u1] := by
        have h1 := hargs.1
        simp at h1
        obtain ⟨l⟩ := us
        match l, h1 with
        | [a, b], _ => exact ⟨a, b, rfl⟩
      have h0 : VRel fid M [] φ (.str s) u0 := hargs.head
      have h1 : VRel fid M [] φ (.int .i64 (Int.ofNat c)) u1 := hargs.tail.head
      cases h0 with
      | str t _ ht =>
        cases h1 with
        | int _ _ =>
          have hl : t.size = s.length := by
            rw [← ht]
            simp
          refine (calls_bel (Any.strings_Repeat L X t c w (by omega) (by rw [hl]; omega))).mono fun e w' he => ?_
          obtain ⟨rfl, hb⟩ := he
          refine ⟨_, rfl, M, ?_, fun _ _ _ h => h, fun _ _ _ h _ => h, mem_bel (fid := fid) hM hb, hb⟩
          exact .str _ _ (by rw [ht])
    · cases hv
  · cases hv

/-- The library's comparison of strings. -/
def cmpF : List AV → Option AV
  | [.str a, .str b] => some (.int .i64 (Lib.compareBytes a b))
  | _ => none
theorem cmp_at {f : Nat} (h : CmpAt P fid f) : FunAt P fid f cmpF := by
  intro ts v hv
  unfold cmpF at hv
  split at hv
  · cases hv
    exact cmp_sim h _ _
  · cases hv
end
end Ago
