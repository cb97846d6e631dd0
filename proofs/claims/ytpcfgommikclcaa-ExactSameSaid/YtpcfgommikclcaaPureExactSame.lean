/- By one and the same number nothing is scaled; by 1 it is divided: for every two numbers of 64 bits. No condition. -/
import Derived.Test.YtpcfgommikclcaaExactLib
namespace Go.Proofs.Ytpcfgommikclcaa.Pure
open Go.RowKit Go.Proofs.Ytpcfgommikclcaa.P Go.Proofs.YtpcfgommikclcaaW.PrintWords Go.Proofs.YtpcfgommikclcaaW.PrintLast
theorem ExactSame : bellbuoylaw01_ExactSame.Pure := by
  intro a n ha hn
  have ha := wfi ha
  have hn := wfi hn
  unfold bellbuoylaw01_ExactSame.f
  by_cases h1 : n < 1
  · rw [if_pos h1, live_eq]; rfl
  · have q := quo_bounds a n (by omega)
    have hq : -9223372036854775808 ≤ a / n ∧ a / n ≤ 9223372036854775807 := by
      by_cases h : 0 ≤ a
      · have := q.1 h; omega
      · have := q.2 (by omega); omega
    rw [if_neg h1, Div_eq a n ha.1 ha.2 (by omega)]
    unfold exact_Scale.f
    rw [if_neg h1, if_neg h1, if_pos ⟨ha, hn, hn⟩, if_pos ⟨ha, ⟨by omega, by omega⟩, hn⟩, Int.mul_ediv_cancel _ (by omega), Int.mul_one, fits, if_pos ha, fits, if_pos hq, live_eq]
    simp
end Go.Proofs.Ytpcfgommikclcaa.Pure
