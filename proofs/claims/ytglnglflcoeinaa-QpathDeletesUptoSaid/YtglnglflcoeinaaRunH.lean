/- qpath.put, at an index. -/
import Derived.Test.YtglnglflcoeinaaRunG
set_option linter.unusedSimpArgs false
set_option linter.unusedVariables false
set_option maxRecDepth 100000
set_option maxHeartbeats 4000000
namespace Ago
open Go (IntKind)
theorem omap_some {α β : Type} {f : α → Option β} {g : α → β} : ∀ (l : List α), (∀ x, x ∈ l → f x = some (g x)) → omap f l = some (l.map g)
  | [], _ => rfl
  | x :: l, h => by
    unfold omap
    rw [h x (by simp), omap_some l fun y hy => h y (by simp [hy])]
    rfl
theorem omap_map {α β γ : Type} {f : β → Option γ} {h : α → β} : ∀ (l : List α), omap f (l.map h) = omap (fun x => f (h x)) l
  | [] => rfl
  | x :: l => by
    rw [List.map_cons]
    unfold omap
    rw [omap_map l]
end Ago
/- qpath.put, whole; the reference's. -/
set_option maxRecDepth 100000
set_option maxHeartbeats 4000000
set_option pp.maxSteps 200000
namespace Ago
open Go (IntKind)
end Ago
/- The reference's put, at a key. -/
set_option maxRecDepth 100000
set_option maxHeartbeats 4000000
namespace Ago
open Go (IntKind)
end Ago
