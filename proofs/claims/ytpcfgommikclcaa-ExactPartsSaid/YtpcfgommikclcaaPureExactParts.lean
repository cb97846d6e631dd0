/- Quotients, what is left, numbers within bounds, and how far two are apart are as the reference of layer 1 says: for every three numbers of 64 bits. No condition. -/
import Derived.Test.YtpcfgommikclcaaExactLib
namespace Go.Proofs.Ytpcfgommikclcaa.Pure
open Go.RowKit Go.Proofs.Ytpcfgommikclcaa.P Go.Proofs.YtpcfgommikclcaaW.PrintWords Go.Proofs.YtpcfgommikclcaaW.PrintLast
theorem ExactParts : bellbuoylaw01_ExactParts.Pure := by
  intro a b c ha hb hc
  have ha := wfi ha
  have hb := wfi hb
  have hd : ∃ v, exact_Div.f a b = some v ∧ bellbuoyref01_Div.f a b = some v := by
    by_cases h : b < 1
    · exact ⟨_, Div_no a b h, refDiv_no a b h⟩
    · exact ⟨_, Div_eq a b ha.1 ha.2 (by omega), refDiv_eq a b ha.1 ha.2 (by omega) hb.2⟩
  have hm : ∃ v, exact_Mod.f a b = some v ∧ bellbuoyref01_Mod.f a b = some v := by
    by_cases h : b < 1
    · exact ⟨_, Mod_no a b h, refMod_no a b h⟩
    · exact ⟨_, Mod_eq a b (by omega) hb.2, refMod_eq a b ha.1 ha.2 (by omega) hb.2⟩
  obtain ⟨v, h1, h2⟩ := hd
  obtain ⟨u, h3, h4⟩ := hm
  obtain ⟨x, hx⟩ : ∃ x, bellbuoyref01_Clamp.f a b c = some x := by
    unfold bellbuoyref01_Clamp.f
    split
    · exact ⟨_, rfl⟩
    · split <;> exact ⟨_, rfl⟩
  unfold bellbuoylaw01_ExactParts.f
  rw [h1, h2, h3, h4, Dist_eq a b ha.1 ha.2 hb.1 hb.2, refDist_eq a b ha.1 ha.2 hb.1 hb.2, live_eq, refClamp_eq, hx]
  simp
end Go.Proofs.Ytpcfgommikclcaa.Pure
