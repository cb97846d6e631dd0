/- What is put is taken back; quotient and rest make the number again: for every two numbers of 64 bits. No condition. -/
import Derived.Test.YtpcfgommikclcaaExactLib
namespace Go.Proofs.Ytpcfgommikclcaa.Pure
open Go.RowKit Go.Proofs.Ytpcfgommikclcaa.P Go.Proofs.YtpcfgommikclcaaW.PrintWords Go.Proofs.YtpcfgommikclcaaW.PrintLast
theorem ExactBack : bellbuoylaw01_ExactBack.Pure := by
  intro a b ha hb
  have ha := wfi ha
  have hb := wfi hb
  refine ⟨1, ?_⟩
  have rest : ((exact_Div.f a b).bind fun bt155 => ((exact_Mod.f a b).bind fun bt157 => ((bellbuoylaw01_live.f).bind fun t159 => (if t159 = true then (if (bt155.2 == bt157.2) = true then (if (bt155.2 == (decide (b > 0))) = true then (if bt155.2 = true then (if bt157.1 ≥ 0 then (if bt157.1 < b then (some ((wrap64 ((wrap64 (bt155.1 * b)) + bt157.1)) == a)) else (some false)) else (some false)) else (some true)) else (some false)) else (some false)) else (some false))))) = some true := by
    rw [live_eq]
    by_cases h : b < 1
    · have hd : decide (b > 0) = false := decide_eq_false (by omega)
      rw [Div_no a b h, Mod_no a b h, hd]
      simp
    · have hd : decide (b > 0) = true := decide_eq_true (by omega)
      have m0 := Int.emod_nonneg a (b := b) (by omega)
      have m1 := Int.emod_lt_of_pos a (b := b) (by omega)
      have e := Int.mul_ediv_add_emod a b
      rw [Int.mul_comm] at e
      rw [Div_eq a b ha.1 ha.2 (by omega), Mod_eq a b (by omega) hb.2, hd]
      simp only [Option.bind_some, if_true, BEq.rfl]
      rw [if_pos m0, if_pos m1]
      have hw : wrap64 (wrap64 (a / b * b) + a % b) = a := by
        generalize a / b * b = z at *
        unfold wrap64
        omega
      rw [hw]
      simp
  unfold bellbuoylaw01_ExactBack.f
  rw [Add_eq a b ha.1 ha.2 hb.1 hb.2]
  simp only [Option.bind_some]
  by_cases hf : -9223372036854775808 ≤ a + b ∧ a + b ≤ 9223372036854775807
  · rw [fit64_in hf.1 hf.2]
    simp only [if_true]
    rw [Sub_eq (a + b) b hf.1 hf.2 hb.1 hb.2, show a + b - b = a by omega, fit64_in ha.1 ha.2]
    simp only [Option.bind_some, if_true]
    have hne : (a != a) = false := by simp
    rw [hne]
    simp only [bellbuoylaw01_ExactBack.j0, Bool.false_eq_true, if_false]
    exact rest
  · rw [fit64_out hf]
    simp only [Bool.false_eq_true, if_false]
    exact rest
end Go.Proofs.Ytpcfgommikclcaa.Pure
