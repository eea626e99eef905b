/- validate.length returns the number of characters. -/
import Derived.Test.YtbaojellfboifaaGreatDoorRows
import Derived.Test.YtbaojellfboifaaGreatDoorMachH
import Derived.Tactics
import Derived.Tactics2
import Derived.StillTactics
import Derived.Laws.AppendOwn
import Derived.Laws.Runes
import Derived.Laws.Rows
import Derived.Laws.NewBlocks
import Derived.Laws.Unary
import Derived.Laws.Strings
import Derived.Laws.NewFold
import Derived.Laws.Alloc2
import Derived.Laws.Strings2
import Derived.Laws.Wrap64
import Derived.Laws.Closers25
import Derived.Laws.RangeString
import Derived.Laws.Cells
import Derived.Laws.Pointers
import Derived.Laws.ByValue
import Derived.Laws.Entries
import Derived.Laws.RangeAny
import Derived.Laws.World
import Derived.Laws.Sem
import Derived.Laws.Small
import Derived.Scope
import Derived.FnLit
import Derived.LoopTactic
set_option linter.unusedSimpArgs false
set_option linter.unusedVariables false
namespace Go.Proofs.YtbaojellfboifaaGreatDoor
open Ago
theorem width_pos (s : ByteArray) (pos : Nat) (h : pos < s.size) : 1 ≤ (Utf8.decode s pos).2 := by
  by_cases ha : (s[pos]'h).toNat < 128
  · rw [decode_ascii s pos h ha]
    exact Nat.le_refl _
  · exact (decode_high s pos h (by omega)).2
theorem runesGo_end (s : ByteArray) (b pos : Nat) (h : ¬ pos < s.size) : runesGo s b pos = 0 := by
  cases b with
  | zero => rfl
  | succ b => simp [runesGo, h]
set_option maxRecDepth 1000000 in
theorem len_walk0 (s : ByteArray) (w : World) (hs : s.size ≤ lim) :
    Calls Tryz.prog 28 #[.string s] w fun e w' => e = .returned (.int .i64 (runes s.data.toList : Nat)) ∧ ∃ pos, w' = w.iter s pos := by
  have hlim : lim = 2147483648 := rfl
  go_enter Tryz.func28, Tryz.ntmps28
  go_wp2
  go_loopw [3] (fun n w' => ∃ (pos b acc : Nat), w' = w.iter s pos ∧ n = .int .i64 acc ∧ acc + runesGo s b pos = runesGo s s.size 0 ∧ s.size ≤ pos + b ∧ acc + b ≤ s.size) (fun _ w' => s.size - w'.iterPos w.heap.size)
  case atStart => exact ⟨0, s.size, 0, rfl, rfl, by simp, by omega, by omega⟩
  case round =>
    obtain ⟨pos, b, acc, rfl, rfl, hc, hb, hb2⟩ := hrel
    by_cases hp : pos < s.size
    · have hnx : ∀ ty, (Instr.next (.pointer (some ⟨w.heap.size, 0, none⟩)) true ty).run Tryz.prog (w.iter s pos) = _ := fun ty => run_next_any w s pos ty hp
      go_wp2
      have hwd := width_pos s pos hp
      go_roundw
      case rel =>
        cases b with
        | zero => omega
        | succ b =>
          refine ⟨pos + (Utf8.decode s pos).2, b, acc + 1, rfl, ?_, ?_, by omega, by omega⟩
          · simp
          · rw [← hc]
            simp [runesGo, hp]
            omega
      case measure =>
        simp
        omega
    · have hnx : ∀ ty, (Instr.next (.pointer (some ⟨w.heap.size, 0, none⟩)) true ty).run Tryz.prog (w.iter s pos) = _ := fun ty => run_next_end w s pos ty hp
      go_wp2
      go_ret
      rw [runesGo_end s b pos hp] at hc
      refine ⟨?_, _, rfl⟩
      have e : acc = runes s.data.toList := by
        unfold runes
        rw [show (⟨s.data.toList.toArray⟩ : ByteArray) = s by cases s; simp]
        rw [show s.data.toList.length = s.size by simp]
        omega
      rw [← e]
      rfl
theorem len_walk (s : ByteArray) (w : World) (hs : s.size ≤ lim) : Calls Tryz.prog 28 #[.string s] w fun e w' => e = .returned (.int .i64 (runes s.data.toList : Nat)) ∧ Bel w.heap.size w w' := by
  refine (len_walk0 s w hs).mono fun e w' he => ?_
  obtain ⟨h1, pos, rfl⟩ := he
  refine ⟨h1, ⟨⟨rfl, rfl, rfl, ?_, fun k hk => ?_⟩, Nat.le_refl _⟩⟩
  · show w.heap.size ≤ (w.heap.push _).size
    simp
  · show (w.heap.push _)[k]? = w.heap[k]?
    rw [Array.getElem?_push_lt hk, Array.getElem?_eq_getElem hk]
end Go.Proofs.YtbaojellfboifaaGreatDoor
