/- With an epoch that is one length later each slot is one less, but for what is due and what is far: for every three numbers of 64 bits. No condition. -/
import Derived.Test.YtbjepiglagnpjaaQuantLib
namespace Go.Proofs.Ytbjepiglagnpjaa.Pure
open Go.RowKit Go.Proofs.Ytbjepiglagnpjaa.P Go.Proofs.YtbjepiglagnpjaaW.PrintWords Go.Proofs.YtbjepiglagnpjaaW.PrintLast

theorem QuantPromotes : bellbuoylaw22_QuantPromotes.Pure := by
  intro a0 a1 a2 _ _ _
  obtain ⟨t, ht, t0, t1⟩ := near_eq a0
  obtain ⟨s, hs, s0, s1⟩ := near_eq a1
  obtain ⟨m, hm, m0, m1⟩ := len_eq a2
  have Tt : Tm t := ⟨by omega, by omega⟩
  have Ts : Tm s := ⟨by omega, by omega⟩
  have Tsm : Tm (s + m) := ⟨by omega, by omega⟩
  have Lm : Ln m := ⟨m0, m1⟩
  have hq : (t - (s + m)) / m = (t - s) / m - 1 := by
    have := Int.add_mul_ediv_right (t - s) (-1) (c := m) (by omega)
    rw [show t - (s + m) = t - s + -1 * m by omega, this]
    omega
  have h1 : slotV ((t - s) / m - 1) ≤ slotV ((t - s) / m) ∧ slotV ((t - s) / m) - 1 ≤ slotV ((t - s) / m - 1) ∧ 0 ≤ slotV ((t - s) / m) ∧ slotV ((t - s) / m) ≤ 255 ∧ (slotV ((t - s) / m) ≠ 0 → (t - s) / m ≤ 255 → slotV ((t - s) / m - 1) = slotV ((t - s) / m) - 1) := by
    unfold slotV
    generalize (t - s) / m = p
    by_cases c1 : p < 0
    · rw [if_pos c1, if_pos (by omega)]; omega
    · rw [if_neg c1]
      by_cases c2 : 255 < p
      · rw [if_pos c2, if_neg (by omega)]
        split <;> omega
      · rw [if_neg c2]
        split
        · omega
        · rw [if_neg (by omega)]; omega
  refine ⟨1, ?_⟩
  unfold bellbuoylaw22_QuantPromotes.f
  rw [ht, hs]
  simp only [Option.bind_some, hm]
  rw [i64w (s + m) (by omega) (by omega), Slot_eq t s m Tt Ts Lm, Slot_eq t (s + m) m Tt Tsm Lm, hq]
  simp only [Option.bind_some, if_true]
  rw [if_neg (by omega), i64w _ (by omega) (by omega)]
  have hd : decide (slotV ((t - s) / m - 1) < slotV ((t - s) / m) - 1) = false := by rw [decide_eq_false_iff_not]; omega
  rw [hd]
  simp only [bellbuoylaw22_QuantPromotes.j0, Bool.false_eq_true, if_false, live_eq, Option.bind_some, if_true]
  by_cases hz : slotV ((t - s) / m) = 0
  · rw [if_pos hz]
  · rw [if_neg hz, Far_eq t s m Tt Ts Lm]
    simp only [Option.bind_some]
    by_cases hf : (t - s) / m > 255
    · rw [if_pos (by simpa using hf)]
    · rw [if_neg (by simpa using hf), i64w _ (by omega) (by omega), h1.2.2.2.2 hz (by omega)]
      simp

end Go.Proofs.Ytbjepiglagnpjaa.Pure
