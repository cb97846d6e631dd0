/- So many epochs later a deadline's slot is so much less, till it is due; and the better ranks wait less: for every three numbers. No condition. -/
import Derived.Test.YtgnkmpgnlpjglaaQuantCore
namespace Go.Proofs.Ytgnkmpgnlpjglaa.Pure
open Go.RowKit Go.Proofs.Ytgnkmpgnlpjglaa.P Go.Proofs.YtgnkmpgnlpjglaaW.PrintWords Go.Proofs.YtgnkmpgnlpjglaaW.PrintLast

theorem mask37 (n : Int) : Go.bits .and .i64 n 137438953471 = n % 137438953472 := by
  have h127 : (BitVec.ofInt 64 137438953471).toNat = 2 ^ 37 - 1 := by decide
  have key : (BitVec.ofInt 64 n &&& BitVec.ofInt 64 137438953471).toNat = (n % ((2 ^ 64 : Nat) : Int)).toNat % 2 ^ 37 := by
    rw [BitVec.toNat_and, BitVec.toNat_ofInt, h127, Nat.and_two_pow_sub_one_eq_mod]
  show IntKind.i64.wrap ((BitVec.ofInt 64 n &&& BitVec.ofInt 64 137438953471).toNat : Nat) = n % 137438953472
  rw [key, IntKind.wrap_i64]
  omega
theorem mask30 (n : Int) : Go.bits .and .i64 n 1073741823 = n % 1073741824 := by
  have h127 : (BitVec.ofInt 64 1073741823).toNat = 2 ^ 30 - 1 := by decide
  have key : (BitVec.ofInt 64 n &&& BitVec.ofInt 64 1073741823).toNat = (n % ((2 ^ 64 : Nat) : Int)).toNat % 2 ^ 30 := by
    rw [BitVec.toNat_and, BitVec.toNat_ofInt, h127, Nat.and_two_pow_sub_one_eq_mod]
  show IntKind.i64.wrap ((BitVec.ofInt 64 n &&& BitVec.ofInt 64 1073741823).toNat : Nat) = n % 1073741824
  rw [key, IntKind.wrap_i64]
  omega
theorem Wait_eq (k r : Int) (k0 : 0 ≤ k) (k1 : k ≤ 255) (r0 : 0 ≤ r) (r1 : r ≤ 31) : rank_Wait.f 5 (k + 1) 2 r = some (5 + r * (k + 1)) := by
  have h : 0 ≤ r * (k + 1) ∧ r * (k + 1) ≤ 31 * 256 := ⟨Int.mul_nonneg (by omega) (by omega), Int.mul_le_mul (by omega) (by omega) (by omega) (by omega)⟩
  have hR : rank_Right.f 5 (k + 1) 2 = some true := by
    unfold rank_Right.f rank_within.f
    rw [if_pos (by omega : (2 : Int) ≥ 1)]
    simp only [Option.bind_some]
    rw [if_pos (by decide), if_pos (by omega : k + 1 ≥ 1)]
    simp only [Option.bind_some]
    rw [if_pos (decide_eq_true (by omega)), if_pos (by omega : (5 : Int) ≥ 2)]
    rfl
  have hk : rank_ranked.f r = some true := by
    unfold rank_ranked.f rank_within.f
    rw [if_pos (by omega)]
    simp only [Option.bind_some]
    rw [decide_eq_true (by omega)]
  unfold rank_Wait.f
  rw [hR, hk]
  simp only [Option.bind_some, if_true]
  rw [i64w (r * (k + 1)) (by omega) (by omega), i64w _ (by omega) (by omega)]

theorem TopPromoted : bellbuoytop_TopPromoted.Pure := by
  intro a0 a1 k _ _ hk
  simp only [Lit.wf, Bool.and_eq_true, decide_eq_true_eq] at hk
  have k0 : 0 ≤ k := hk.1
  have k1 : k ≤ 255 := hk.2
  obtain ⟨d, hd⟩ : ∃ d, a0 % 137438953472 = d := ⟨_, rfl⟩
  obtain ⟨m, hm⟩ : ∃ m, a1 % 1073741824 + 1 = m := ⟨_, rfl⟩
  have d0 : 0 ≤ d ∧ d < 137438953472 := by omega
  have m0 : 1 ≤ m ∧ m ≤ 1073741824 := by omega
  have p : 0 ≤ k * m ∧ k * m ≤ 255 * 1073741824 := ⟨Int.mul_nonneg (by omega) (by omega), Int.mul_le_mul (by omega) (by omega) (by omega) (by omega)⟩
  have Td : Tm d := ⟨by omega, by omega⟩
  have T0 : Tm 0 := ⟨by omega, by omega⟩
  have Tk : Tm (k * m) := ⟨by omega, by omega⟩
  have Lm : Ln m := ⟨m0.1, by omega⟩
  have hmod : k * m % m = 0 := Int.mul_emod_left _ _
  have hdiv : (d - k * m) / m = d / m - k := by
    rw [Int.sub_mul_ediv_right _ _ (by omega)]
  have q0 : 0 ≤ d / m := Int.ediv_nonneg (by omega) (by omega)
  have r0 : 0 ≤ Int.tmod k 30 := Int.tmod_nonneg _ (by omega)
  have r1 : Int.tmod k 30 < 30 := Int.tmod_lt_of_pos _ (by omega)
  unfold bellbuoytop_TopPromoted.f
  rw [mask37, mask30, i64w (a1 % 1073741824 + 1) (by omega) (by omega), hm, hd, i64w k (by omega) (by omega), i64w (k * m) (by omega) (by omega), i64w (k + 1) (by omega) (by omega), Slot_eq d 0 m Td T0 Lm, Epoch_eq (k * m) m Tk Lm, hmod]
  simp only [Option.bind_some, Int.sub_zero, if_true]
  rw [Slot_eq d (k * m) m Td Tk Lm, hdiv]
  simp only [Option.bind_some, if_true]
  rw [i64w (Int.tmod k 30 + 1) (by omega) (by omega), Wait_eq k _ k0 k1 r0 (by omega), Wait_eq k _ k0 k1 (by omega) (by omega), Far_eq d 0 m Td T0 Lm, Int.sub_zero]
  simp only [Option.bind_some]
  rw [if_neg (by rw [Int.add_mul (Int.tmod k 30) 1, Int.one_mul]; omega)]
  by_cases h : d / m > 255
  · rw [if_pos (decide_eq_true h)]
  · rw [if_neg (by rw [decide_eq_true_eq]; exact h)]
    congr 1
    rw [beq_iff_eq]
    have e : slotV (d / m) = d / m := by unfold slotV; rw [if_neg (by omega), if_neg (by omega)]
    rw [e, i64w (d / m - k) (by omega) (by omega)]
    unfold slotV mx
    repeat' split
    all_goals omega
end Go.Proofs.Ytgnkmpgnlpjglaa.Pure
