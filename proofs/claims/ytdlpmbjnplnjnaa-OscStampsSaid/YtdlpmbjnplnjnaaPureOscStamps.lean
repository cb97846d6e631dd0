/- Any count's stamp, and what any stamp is expanded to, are as the reference of layer 16 says: for every count, stamp and width. No condition. -/
import Derived.Test.YtdlpmbjnplnjnaaOscLib
namespace Go.Proofs.Ytdlpmbjnplnjnaa.Pure
open Go.RowKit Go.Proofs.Ytdlpmbjnplnjnaa.P Go.Proofs.YtdlpmbjnplnjnaaW.PrintWords Go.Proofs.YtdlpmbjnplnjnaaW.PrintLast

theorem OscStamps : bellbuoylaw16_OscStamps.Pure := by
  intro c s a2 hc hs ha
  have hc := wfi hc
  have hs := wfu hs
  refine ⟨1, ?_⟩
  unfold bellbuoylaw16_OscStamps.f
  have hst : ∃ v, osc_Stamp.f c a2 = some v ∧ bellbuoyref16_Stamp.f c a2 = some v := by
    by_cases hw : a2 < 1 ∨ 62 < a2
    · exact ⟨_, Stamp_no c a2 hw, refStamp_no c a2 hw⟩
    · obtain ⟨w, rfl⟩ : ∃ w : Nat, a2 = w := ⟨a2.toNat, by omega⟩
      exact ⟨_, Stamp_eq c w (by omega) (by omega), refStamp_eq c hc.1 hc.2 w (by omega) (by omega)⟩
  have hex : ∃ v, osc_Expand.f 1 c s a2 = some v ∧ bellbuoyref16_Expand.f 1 c s a2 = some v := by
    by_cases hn : a2 < 1 ∨ 62 < a2 ∨ 2 ^ a2.toNat ≤ s ∨ c < 0
    · exact ⟨_, Expand_no c s a2 hn 0, refExpand_no c s a2 hn 0⟩
    · obtain ⟨w, rfl⟩ : ∃ w : Nat, a2 = w := ⟨a2.toNat, by omega⟩
      rw [Int.toNat_natCast] at hn
      exact ⟨_, Expand_eq c s w (by omega) (by omega) (by omega) hc.2 hs.1 (by omega) 0, refExpand_eq c s w (by omega) (by omega) (by omega) hc.2 hs.1 (by omega) 0⟩
  obtain ⟨v, h1, h2⟩ := hst
  obtain ⟨u, h3, h4⟩ := hex
  rw [h1, h2, h3, h4]
  simp [bellbuoylaw16_live.f]

end Go.Proofs.Ytdlpmbjnplnjnaa.Pure
