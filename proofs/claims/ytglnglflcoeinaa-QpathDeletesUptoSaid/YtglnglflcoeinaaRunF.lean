/- value.check is the reference's look: the same faults in the same order. -/
import Derived.Test.YtglnglflcoeinaaRunE
set_option linter.unusedSimpArgs false
set_option linter.unusedVariables false
set_option maxRecDepth 100000
set_option maxHeartbeats 4000000
namespace Ago
open Go (IntKind)
/-- What is wrong with a value that has only what its kind has. -/
def oneI (v : V) : Int :=
  if v.s.kind = 2 ∧ decOk v.s.num = false ∨ v.s.kind = 3 ∧ tmOk v.s.time = false then 2
  else if v.s.kind = 4 ∧ utf v.s.text = false then 5
  else if 65536 < v.s.text.length ∨ 65536 < v.s.bytes.length then 10
  else keysM (v.f.map (·.1))
theorem own_num {v : V} (h : ownM v = true) (hk : v.s.kind ≠ 2) : v.s.num = ⟨false, [], 0⟩ := by
  unfold ownM numZ at h
  cases hn : v.s.num with
  | mk a b c => simp_all
theorem own_text {v : V} (h : ownM v = true) (hk : v.s.kind ≠ 4) : v.s.text = [] := by
  unfold ownM at h
  simp_all
theorem utf_nil : utf [] = true := by decide
theorem one_own {v : V} (h : ownM v = true) : oneM v = oneI v := by
  unfold oneM oneI
  rw [if_neg (by rw [h]; simp)]
  have h1 : decOk v.s.num = false → v.s.kind = 2 := fun hd => Classical.byContradiction fun hk => by
    rw [own_num h hk] at hd
    revert hd
    decide
  have h2 : utf v.s.text = false → v.s.kind = 4 := fun hd => Classical.byContradiction fun hk => by
    rw [own_text h hk, utf_nil] at hd
    cases hd
  have e1 : (decOk v.s.num = false ∨ v.s.kind = 3 ∧ tmOk v.s.time = false) ↔ (v.s.kind = 2 ∧ decOk v.s.num = false ∨ v.s.kind = 3 ∧ tmOk v.s.time = false) :=
    ⟨fun h => h.elim (fun h => .inl ⟨h1 h, h⟩) .inr, fun h => h.elim (fun h => .inl h.2) .inr⟩
  have e2 : utf v.s.text = false ↔ (v.s.kind = 4 ∧ utf v.s.text = false) := ⟨fun h => ⟨h2 h, h⟩, fun h => h.2⟩
  simp only [e1, ← e2]
theorem drop_cons {α : Type} {l : List α} {k : Nat} {x : α} (hx : l[k]? = some x) : l.drop k = x :: l.drop (k + 1) := by
  obtain ⟨h3, h4⟩ := List.getElem?_eq_some_iff.1 hx
  rw [List.drop_eq_getElem_cons h3, h4]
end Ago
/- value.Check is the reference's Check. -/
set_option maxRecDepth 100000
set_option maxHeartbeats 4000000
namespace Ago
open Go (IntKind)
end Ago
