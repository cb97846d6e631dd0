/- Every deadline's slot, where slots begin, epochs and what is far are as the reference of layer 22 says, for every three numbers of 64 bits. No condition. -/
import Derived.Test.YtbjepiglagnpjaaQuantLib
namespace Go.Proofs.Ytbjepiglagnpjaa.Pure
open Go.RowKit Go.Proofs.Ytbjepiglagnpjaa.P Go.Proofs.YtbjepiglagnpjaaW.PrintWords Go.Proofs.YtbjepiglagnpjaaW.PrintLast

theorem QuantSlots : bellbuoylaw22_QuantSlots.Pure := by
  intro d e n _ _ _
  obtain ⟨v1, b1, h1, g1⟩ := Slot_ref d e n
  obtain ⟨v2, b2, h2, g2⟩ := Start_ref (Int.tmod d 300) e n
  obtain ⟨v3, b3, h3, g3⟩ := Epoch_ref d n
  obtain ⟨v4, b4, h4, g4⟩ := Next_ref d n
  obtain ⟨b5, h5, g5⟩ := Far_ref d e n
  unfold bellbuoylaw22_QuantSlots.f
  rw [h1, g1, h2, g2, h3, g3, h4, g4, h5, g5, live_eq]
  simp

end Go.Proofs.Ytbjepiglagnpjaa.Pure
