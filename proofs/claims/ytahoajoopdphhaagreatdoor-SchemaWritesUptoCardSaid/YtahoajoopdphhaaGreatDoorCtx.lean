/- The context of the law holds of the program. -/
import Derived.Test.YtahoajoopdphhaaGreatDoorAwa
import Derived.Test.YtahoajoopdphhaaGreatDoorMachH
set_option linter.unusedSimpArgs false
set_option linter.unusedVariables false
set_option maxRecDepth 100000
namespace Go.Proofs.YtahoajoopdphhaaGreatDoor
open Ago
theorem qwY : qqE Tryz.prog (q2B fids) 456 quG := fun ts v h => by
  unfold quG at h
  split at h
  · cases h
    exact (ql1 qwV (show q0m CF 456 [] (.bool true) from qvZ)).1
  · cases h
theorem qot {f : Nat} {ts : List AV} {v : AV} (hf : qja f = none) (h1 : csQ f = false) (h2 : lnQ f = false) : ¬ CS.pprim f ts v := fun h => by
  rcases h with h | ⟨h, _⟩ | ⟨h, _⟩
  · exact qpe hf h
  · rw [h1] at h
    cases h
  · rw [h2] at h
    cases h
theorem qvI : CtxOk Tryz.prog (q2B fids) pf CT0 := qlp qx0 (fun f F h => by
  unfold ppT at h
  split at h
  · cases h
    exact ⟨rfl, qtd qwh, fun ts v => qot rfl rfl rfl⟩
  · cases h
    exact ⟨rfl, qwY, fun ts v => qot rfl rfl rfl⟩
  · cases h)
theorem ql6 {f : Nat} {a : List AV} {H H' : Heap} {v : AV} (hf : qiW f = none) (h2 : ssQ f = false) : ¬ CT0.prim f a H v H' := fun h => by
  rcases h with h | ⟨h, _⟩
  · obtain ⟨p, x, h, _⟩ := h
    rw [hf] at h
    cases h
  · rw [h2] at h
    cases h
theorem qwl : CtxOk Tryz.prog (q2B fids) pf (q6A CT0 298 (wsL bQ)) := q9P qvI rfl (fun a H v H' => ql6 rfl rfl) (fun a H v H' h => qsj quz h) (fun a H v H' v2 H2 h h2 => qqW h h2)
theorem qwA : CtxOk Tryz.prog (q2B fids) pf (q6A (q6A CT0 298 (wsL bQ)) 627 (wbL bQ)) := q9P qwl rfl (fun a H v H' h => by
  rcases h with h | ⟨h, _⟩
  · exact ql6 rfl rfl h
  · cases h) (fun a H v H' h => qu1 qsJ h) (fun a H v H' v2 H2 h h2 => qr0 h h2)
theorem qw8 : CtxOk Tryz.prog (q2B fids) pf CT := q9P qwA rfl (fun a H v H' h => by
  rcases h with (h | ⟨h, _⟩) | ⟨h, _⟩
  · exact ql6 rfl rfl h
  · cases h
  · cases h) (fun a H v H' h => qt5 qsh h) (fun a H v H' v2 H2 h h2 => qqD h h2)
end Go.Proofs.YtahoajoopdphhaaGreatDoor
