/- awake of law 45. -/
import Derived.Test.YtaaolmjbpebclaaGreatDoorAwaA
import Derived.Test.YtaaolmjbpebclaaGreatDoorMachE
set_option linter.unusedSimpArgs false
set_option linter.unusedVariables false
set_option maxRecDepth 100000
namespace Ago
theorem upW45 {f : Nat} {ts : List AV} {v : AV} (h : PRun CW45 f ts v) : PRun CS f ts v :=
  bs_ext (C := CW45) (C' := CS) (fun f fn h => by
    have h : codeW45 f = some fn := h
    show codeS f = some fn
    unfold codeW45 at h
    split at h <;> first | exact h | cases h) (fun _ _ _ _ _ h => h.imp (fun ⟨p, x, h, h2⟩ => by
      refine ⟨p, x, ?_, h2⟩
      unfold clRW45 at h
      split at h <;> first | exact h | cases h) id) (fun f t v h => h.imp (fun ⟨p, l, h, h2⟩ => by
      refine ⟨p, l, ?_, h2⟩
      unfold clPW45 at h
      split at h
      · exact h
      · cases h) id) h
theorem awake45 : PRun CS 456 [] (.bool true) := upW45 awf_4
end Ago
