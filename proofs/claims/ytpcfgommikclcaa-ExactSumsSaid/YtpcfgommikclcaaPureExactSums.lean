/- Sums, differences and products, or that they are too great, are as the reference of layer 1 says: for every two numbers of 64 bits. No condition. -/
import Derived.Test.YtpcfgommikclcaaExactLib
namespace Go.Proofs.Ytpcfgommikclcaa.Pure
open Go.RowKit Go.Proofs.Ytpcfgommikclcaa.P Go.Proofs.YtpcfgommikclcaaW.PrintWords Go.Proofs.YtpcfgommikclcaaW.PrintLast
theorem ExactSums : bellbuoylaw01_ExactSums.Pure := by
  intro a b ha hb
  have ha := wfi ha
  have hb := wfi hb
  refine ⟨131, ?_⟩
  unfold bellbuoylaw01_ExactSums.f
  rw [Add_eq a b ha.1 ha.2 hb.1 hb.2, refAdd_eq a b ha.1 ha.2 hb.1 hb.2, Sub_eq a b ha.1 ha.2 hb.1 hb.2, refSub_eq a b ha.1 ha.2 hb.1 hb.2, refMul_eq a b ha.1 ha.2 hb.1 hb.2, exact_Mul.f, if_pos ⟨ha, hb⟩, live_eq]
  simp
end Go.Proofs.Ytpcfgommikclcaa.Pure
