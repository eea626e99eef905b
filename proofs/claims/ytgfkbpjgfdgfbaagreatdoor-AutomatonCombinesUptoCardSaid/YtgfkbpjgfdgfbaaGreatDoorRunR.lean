/- Pairs: the bytes at which a class of two machines begins. -/
import Derived.Test.YtgfkbpjgfdgfbaaGreatDoorRunF
set_option linter.unusedSimpArgs false
set_option linter.unusedVariables false
set_option maxRecDepth 100000
set_option maxHeartbeats 4000000
namespace Ago
theorem los_inP {n:Int} : ∀ (l:List Arc) (lo:Int), 0≤lo→arcsOk n lo l=true→∀ a, a∈l→0≤a.lo∧a.lo<256
  | [], _, _, _, a, h=>by cases h
  | x::l, lo, h0, h, a, ha=>by
    rw[arcsOk_cons] at h
    simp only[Bool.and_eq_true, decide_eq_true_eq] at h
    obtain ⟨⟨⟨⟨⟨h1, h2⟩, h3⟩, h4⟩, h5⟩, h6⟩:=h
    rcases List.mem_cons.1 ha with rfl | ha
    · omega
    · exact los_inP l _ (by omega) h6 a ha
theorem los_ok {m:List Sta} (hv:validM m=true) : ∀ s, s∈m→∀ a, a∈s.arcs→0≤a.lo∧a.lo<256:=fun s hs a ha=>los_inP s.arcs 0 (by omega) (valid_arcs hv hs) a ha
/-- The bytes at which a class of two machines begins. -/
def by2 (a b:List Sta):List Nat:=stN (losL [a, b]) 256
theorem by2_ok {a b:List Sta} (ha:validM a=true):(by2 a b)[0]?=some 0∧(by2 a b).Pairwise (· < ·)∧(by2 a b).length≤256∧∀ c, c∈by2 a b→c<256:=
  ⟨stN_first (by unfold losL; exact List.mem_flatMap.2 ⟨a, by simp, los_zero ha⟩), stN_sorted _ _, stN_le _ _, stN_lt⟩
end Ago
