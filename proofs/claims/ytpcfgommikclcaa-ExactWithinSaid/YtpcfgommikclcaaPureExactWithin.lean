/- What is clamped is within its bounds, and stays so; two numbers are as far apart from both sides: for every three numbers of 64 bits. No condition. -/
import Derived.Test.YtpcfgommikclcaaExactLib
namespace Go.Proofs.Ytpcfgommikclcaa.Pure
open Go.RowKit Go.Proofs.Ytpcfgommikclcaa.P Go.Proofs.YtpcfgommikclcaaW.PrintWords Go.Proofs.YtpcfgommikclcaaW.PrintLast
theorem ExactWithin : bellbuoylaw01_ExactWithin.Pure := by
  intro a lo hi ha hl hh
  have ha := wfi ha
  have hl := wfi hl
  have hs : absd lo a = absd a lo := by unfold absd; split <;> split <;> omega
  have hp : 0 ≤ absd a lo := by unfold absd; split <;> omega
  obtain ⟨x, hx, hx2⟩ : ∃ x, exact_Clamp.f a lo hi = some x ∧ (lo > hi ∨ (x ≥ lo ∧ x ≤ hi ∧ exact_Clamp.f x lo hi = some x)) := by
    unfold exact_Clamp.f mn
    by_cases h1 : a < lo
    · rw [if_pos h1]
      refine ⟨_, rfl, ?_⟩
      by_cases h2 : lo > hi
      · exact .inl h2
      · exact .inr ⟨by omega, by omega, by rw [if_neg (by omega), if_neg (by omega)]⟩
    · rw [if_neg h1]
      by_cases h2 : lo > hi
      · exact ⟨_, rfl, .inl h2⟩
      · by_cases h3 : hi < a
        · rw [if_pos h3]; exact ⟨_, rfl, .inr ⟨by omega, by omega, by rw [if_neg (by omega), if_neg (by omega)]⟩⟩
        · rw [if_neg h3]; exact ⟨_, rfl, .inr ⟨by omega, by omega, by rw [if_neg (by omega), if_neg (by omega)]⟩⟩
  unfold bellbuoylaw01_ExactWithin.f
  rw [hx, Dist_eq a lo ha.1 ha.2 hl.1 hl.2, Dist_eq lo a hl.1 hl.2 ha.1 ha.2, hs, live_eq]
  simp only [Option.bind_some, if_true]
  have tail : (if lo > hi then (some true) else (if x ≥ lo then (if x ≤ hi then ((exact_Clamp.f x lo hi).bind fun t191 => (some (t191 == x))) else (some false)) else (some false))) = some true := by
    rcases hx2 with h | ⟨h1, h2, h3⟩
    · rw [if_pos h]
    · by_cases h : lo > hi
      · rw [if_pos h]
      · rw [if_neg h, if_pos h1, if_pos h2, h3]; simp
  by_cases hf : -9223372036854775808 ≤ absd a lo ∧ absd a lo ≤ 9223372036854775807
  · rw [fit64_in hf.1 hf.2]
    simp only [bne_self_eq_false, Bool.false_eq_true, if_false, if_true]
    rw [if_neg (by omega)]
    exact tail
  · rw [fit64_out hf]
    simp only [bne_self_eq_false, Bool.false_eq_true, if_false]
    exact tail
end Go.Proofs.Ytpcfgommikclcaa.Pure
