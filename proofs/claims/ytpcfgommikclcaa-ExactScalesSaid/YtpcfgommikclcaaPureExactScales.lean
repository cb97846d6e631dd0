/- A product that is divided is exact, in the program as in the reference of layer 1: for every three numbers of 64 bits. No condition. -/
import Derived.Test.YtpcfgommikclcaaExactLib
namespace Go.Proofs.Ytpcfgommikclcaa.Pure
open Go.RowKit Go.Proofs.Ytpcfgommikclcaa.P Go.Proofs.YtpcfgommikclcaaW.PrintWords Go.Proofs.YtpcfgommikclcaaW.PrintLast
theorem ExactScales : bellbuoylaw01_ExactScales.Pure := by
  intro a b c ha hb hc
  have h : ∃ v, exact_Scale.f a b c = some v ∧ bellbuoyref01_Scale.f a b c = some v := by
    unfold exact_Scale.f bellbuoyref01_Scale.f
    by_cases h1 : c < 1
    · rw [if_pos h1]; exact ⟨_, rfl, rfl⟩
    · rw [if_neg h1, if_pos ⟨wfi ha, wfi hb, wfi hc⟩]; exact ⟨_, rfl, rfl⟩
  obtain ⟨v, h1, h2⟩ := h
  unfold bellbuoylaw01_ExactScales.f
  rw [h1, h2, live_eq]
  simp
end Go.Proofs.Ytpcfgommikclcaa.Pure
