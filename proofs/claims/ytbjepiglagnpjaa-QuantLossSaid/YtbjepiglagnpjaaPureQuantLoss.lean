/- A deadline that is within the slots is less than a length behind its slot's beginning; what is due has slot 0, what is far the last one: for every three numbers of 64 bits. No condition. -/
import Derived.Test.YtbjepiglagnpjaaQuantLib
namespace Go.Proofs.Ytbjepiglagnpjaa.Pure
open Go.RowKit Go.Proofs.Ytbjepiglagnpjaa.P Go.Proofs.YtbjepiglagnpjaaW.PrintWords Go.Proofs.YtbjepiglagnpjaaW.PrintLast

theorem QuantLoss : bellbuoylaw22_QuantLoss.Pure := by
  intro a0 a1 a2 _ _ _
  obtain ⟨t, ht, t0, t1⟩ := near_eq a0
  obtain ⟨s, hs, s0, s1⟩ := near_eq a1
  obtain ⟨m, hm, m0, m1⟩ := len_eq a2
  have Tt : Tm t := ⟨by omega, by omega⟩
  have Ts : Tm s := ⟨by omega, by omega⟩
  have Lm : Ln m := ⟨m0, m1⟩
  have q := quo_bounds (t - s) m m0
  have e := Int.mul_ediv_add_emod (t - s) m
  have r0 := Int.emod_nonneg (t - s) (b := m) (by omega)
  have r1 := Int.emod_lt_of_pos (t - s) (b := m) (by omega)
  have hv : 0 ≤ slotV ((t - s) / m) ∧ slotV ((t - s) / m) ≤ 255 := by
    unfold slotV
    split
    · omega
    · split <;> omega
  refine ⟨1, ?_⟩
  unfold bellbuoylaw22_QuantLoss.f
  rw [ht, hs]
  simp only [Option.bind_some, hm]
  rw [Slot_eq t s m Tt Ts Lm]
  simp only [Option.bind_some]
  rw [Start_eq _ s m Ts Lm hv.1 hv.2]
  simp only [Option.bind_some]
  by_cases h : t < s
  · rw [if_pos h]
    simp only [bellbuoylaw22_QuantLoss.j0, live_eq, Option.bind_some, if_true]
    rw [if_neg (by omega), if_pos (by rw [slotV, if_pos (q.2 (by omega)).2]), if_pos h]
  · rw [if_neg h, Far_eq t s m Tt Ts Lm]
    simp only [Option.bind_some]
    by_cases hf : (t - s) / m > 255
    · simp only [bellbuoylaw22_QuantLoss.j0, live_eq, Option.bind_some, if_true, hf, decide_true]
      rw [if_pos (by omega), if_neg h, slotV, if_neg (by omega), if_pos (by omega)]
      rfl
    · have hs2 : slotV ((t - s) / m) = (t - s) / m := by
        have := (q.1 (by omega)).1
        rw [slotV, if_neg (by omega), if_neg (by omega)]
      have q0 := (q.1 (by omega)).1
      rw [hs2]
      generalize (t - s) / m = p at *
      have hmp : m * p ≤ 1099511627776 * 255 := Int.mul_le_mul m1 (by omega) q0 (by omega)
      have hmp0 : 0 ≤ m * p := Int.mul_nonneg (by omega) q0
      rw [Int.mul_comm p m]
      generalize m * p = z at *
      simp only [bellbuoylaw22_QuantLoss.j0, live_eq, Option.bind_some, if_true, hf, decide_false, Bool.false_eq_true, if_false]
      rw [i64w z (by omega) (by omega), i64w (s + z) (by omega) (by omega), if_pos (by omega), i64w (t - (s + z)) (by omega) (by omega)]
      congr 1
      rw [decide_eq_true_eq]
      omega

end Go.Proofs.Ytbjepiglagnpjaa.Pure
