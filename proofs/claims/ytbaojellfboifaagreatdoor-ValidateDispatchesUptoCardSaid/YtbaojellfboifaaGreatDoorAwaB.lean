/- awake of law 46. -/
import Derived.Test.YtbaojellfboifaaGreatDoorAwaA
import Derived.Test.YtbaojellfboifaaGreatDoorMachE
set_option linter.unusedSimpArgs false
set_option linter.unusedVariables false
set_option maxRecDepth 100000
namespace Ago
theorem upW46 {f : Nat} {ts : List AV} {v : AV} (h : PRun CW46 f ts v) : PRun CS f ts v :=
  bs_ext (C := CW46) (C' := CS) (fun f fn h => by
    have h : codeW46 f = some fn := h
    show codeS f = some fn
    unfold codeW46 at h
    split at h <;> first | exact h | cases h) (fun _ _ _ _ _ h => h.imp (fun ⟨p, x, h, h2⟩ => by
      refine ⟨p, x, ?_, h2⟩
      unfold clRW46 at h
      split at h <;> first | exact h | cases h) id) (fun f t v h => h.imp (fun ⟨p, l, h, h2⟩ => by
      refine ⟨p, l, ?_, h2⟩
      unfold clPW46 at h
      split at h
      · exact h
      · cases h) id) h
theorem awake46 : PRun CS 469 [] (.bool true) := upW46 awg_6
end Ago
