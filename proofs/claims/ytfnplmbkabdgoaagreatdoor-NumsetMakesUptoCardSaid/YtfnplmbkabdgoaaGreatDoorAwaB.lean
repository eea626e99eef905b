/- awake of law 18. -/
import Derived.Test.YtfnplmbkabdgoaaGreatDoorAwaA
import Derived.Test.YtfnplmbkabdgoaaGreatDoorMachE
set_option linter.unusedSimpArgs false
set_option linter.unusedVariables false
set_option maxRecDepth 100000
namespace Ago
theorem upW18 {f : Nat} {ts : List AV} {v : AV} (h : PRun CW18 f ts v) : PRun CN f ts v :=
  bs_ext (C := CW18) (C' := CN) (fun f fn h => by
    have h : codeW18 f = some fn := h
    show codeN f = some fn
    unfold codeW18 at h
    split at h <;> first | exact h | cases h) (fun _ _ _ _ _ h => by
      obtain ⟨p, x, h, h2⟩ := h
      refine ⟨p, x, ?_, h2⟩
      unfold clRW18 at h
      first | (split at h <;> first | exact h | cases h) | cases h) (fun f t v h => h.imp (fun ⟨p, l, h, h2⟩ => by
      refine ⟨p, l, ?_, h2⟩
      unfold clPW18 at h
      first | (split at h <;> first | exact h | cases h) | cases h) id) h
theorem awake18 : PRun CN 671 [] (.bool true) := upW18 nva_34
end Ago
