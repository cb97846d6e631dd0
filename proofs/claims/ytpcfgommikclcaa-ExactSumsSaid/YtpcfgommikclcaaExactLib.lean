/- What layer 1's functions compute, in the program and in its reference, as plain integers. Conditions: none but the ranges that each lemma names. -/
import Derived.Test.YtpcfgommikclcaaPx
namespace Go.Proofs.Ytpcfgommikclcaa.P
open Go.RowKit Go.Proofs.YtpcfgommikclcaaW.PrintWords Go.Proofs.YtpcfgommikclcaaW.PrintLast Go.Proofs.YtpcfgommikclcaaW.PrintMore
set_option linter.unusedVariables false
set_option linter.unusedSimpArgs false
theorem wfi {n : Int} (h : (Lit.int .i64 n).wf = true) : -9223372036854775808 ≤ n ∧ n ≤ 9223372036854775807 := by
  simp only [Lit.wf, Bool.and_eq_true, decide_eq_true_eq] at h; exact h
theorem wfu {n : Int} (h : (Lit.int .u64 n).wf = true) : 0 ≤ n ∧ n ≤ 18446744073709551615 := by
  simp only [Lit.wf, Bool.and_eq_true, decide_eq_true_eq] at h; exact h
theorem wf8 {n : Int} (h : (Lit.int .u8 n).wf = true) : 0 ≤ n ∧ n ≤ 255 := by
  simp only [Lit.wf, Bool.and_eq_true, decide_eq_true_eq] at h; exact h

theorem quo_bounds (a b : Int) (hb : 1 ≤ b) : (0 ≤ a → 0 ≤ a / b ∧ a / b ≤ a) ∧ (a < 0 → a ≤ a / b ∧ a / b < 0) := by
  refine ⟨fun h => ⟨Int.ediv_nonneg h (by omega), Int.ediv_le_self _ h⟩, fun h => ⟨(Int.le_ediv_iff_mul_le (by omega)).2 ?_, (Int.ediv_lt_iff_lt_mul (by omega)).2 (by omega)⟩⟩
  have := Int.mul_le_mul_of_nonneg_left (a := 1) (b := b) (c := -a) hb (by omega)
  rw [Int.neg_mul, Int.neg_mul] at this
  omega

theorem tdivmod (a b : Int) (hb : 1 ≤ b) : (Int.tmod a b < 0 → Int.tdiv a b = a / b + 1 ∧ Int.tmod a b + b = a % b) ∧ (¬ Int.tmod a b < 0 → Int.tdiv a b = a / b ∧ Int.tmod a b = a % b) := by
  have e := Int.mul_tdiv_add_tmod a b
  have h1 := Int.lt_tmod_of_pos a (b := b) (by omega)
  have h2 := Int.tmod_lt_of_pos a (b := b) (by omega)
  have u : ∀ q r, _ := fun q r => (Int.ediv_emod_unique (a := a) (r := r) (q := q) (b := b) (by omega)).2
  constructor
  · intro h
    have := u (Int.tdiv a b - 1) (Int.tmod a b + b) ⟨by rw [Int.mul_sub, Int.mul_one]; omega, by omega, by omega⟩
    omega
  · intro h
    have := u (Int.tdiv a b) (Int.tmod a b) ⟨by omega, by omega, by omega⟩
    omega


theorem Div_eq (a b : Int) (a0 : -9223372036854775808 ≤ a) (a1 : a ≤ 9223372036854775807) (hb : 1 ≤ b) : exact_Div.f a b = some (a / b, true) := by
  have h := tdivmod a b hb
  have q := quo_bounds a b hb
  have e := Int.mul_tdiv_add_tmod a b
  unfold exact_Div.f
  rw [if_neg (by omega), if_neg (by omega)]
  by_cases hm : Int.tmod a b < 0
  · have h' := (h.1 hm).1
    have hneg : a < 0 := by
      apply Classical.byContradiction
      intro hp
      have := Int.tmod_nonneg (a := a) b (by omega)
      omega
    have q' := q.2 hneg
    rw [if_pos hm, i64w (Int.tdiv a b) (by omega) (by omega), i64w _ (by omega) (by omega), h']
    congr 2
    omega
  · have h' := (h.2 hm).1
    have hw : -9223372036854775808 ≤ a / b ∧ a / b ≤ 9223372036854775807 := by
      by_cases hneg : a < 0
      · have := q.2 hneg; omega
      · have := q.1 (by omega); omega
    rw [if_neg hm, h', i64w _ hw.1 hw.2]


theorem Mod_eq (a b : Int) (hb : 1 ≤ b) (hb2 : b ≤ 9223372036854775807) : exact_Mod.f a b = some (a % b, true) := by
  have h := tdivmod a b hb
  have m0 := Int.emod_nonneg a (b := b) (by omega)
  have m1 := Int.emod_lt_of_pos a (b := b) (by omega)
  unfold exact_Mod.f
  rw [if_neg (by omega), if_neg (by omega)]
  by_cases hm : Int.tmod a b < 0
  · rw [if_pos hm, (h.1 hm).2, i64w _ (by omega) (by omega)]
  · rw [if_neg hm, (h.2 hm).2]


theorem Add_eq (a b : Int) (a0 : -9223372036854775808 ≤ a) (a1 : a ≤ 9223372036854775807) (b0 : -9223372036854775808 ≤ b) (b1 : b ≤ 9223372036854775807) : exact_Add.f a b = some (fit64 (a + b)) := by
  have hw := wrap64_range (a + b)
  have h1 := xor_neg a (wrap64 (a + b)) a0 a1 hw.1 hw.2
  have h2 := xor_neg b (wrap64 (a + b)) b0 b1 hw.1 hw.2
  have r1 := xor_range a (wrap64 (a + b))
  have r2 := xor_range b (wrap64 (a + b))
  have h3 := and_neg _ _ r1.1 r1.2 r2.1 r2.2
  unfold exact_Add.f
  by_cases hf : -9223372036854775808 ≤ a + b ∧ a + b ≤ 9223372036854775807
  · rw [if_neg (by rw [h3, h1, h2, wr64 _ hf.1 hf.2]; omega), fit64, if_pos hf, wr64 _ hf.1 hf.2]
  · rw [if_pos (by
      rw [h3, h1, h2]
      have hv : wrap64 (a + b) = a + b - 18446744073709551616 ∧ 0 < a + b ∨ wrap64 (a + b) = a + b + 18446744073709551616 ∧ a + b < 0 := by unfold wrap64; omega
      omega), fit64, if_neg hf]


theorem Sub_eq (a b : Int) (a0 : -9223372036854775808 ≤ a) (a1 : a ≤ 9223372036854775807) (b0 : -9223372036854775808 ≤ b) (b1 : b ≤ 9223372036854775807) : exact_Sub.f a b = some (fit64 (a - b)) := by
  have hw := wrap64_range (a - b)
  have h1 := xor_neg a b a0 a1 b0 b1
  have h2 := xor_neg a (wrap64 (a - b)) a0 a1 hw.1 hw.2
  have r1 := xor_range a b
  have r2 := xor_range a (wrap64 (a - b))
  have h3 := and_neg _ _ r1.1 r1.2 r2.1 r2.2
  unfold exact_Sub.f
  by_cases hf : -9223372036854775808 ≤ a - b ∧ a - b ≤ 9223372036854775807
  · rw [if_neg (by rw [h3, h1, h2, wr64 _ hf.1 hf.2]; omega), fit64, if_pos hf, wr64 _ hf.1 hf.2]
  · rw [if_pos (by
      rw [h3, h1, h2]
      have hv : wrap64 (a - b) = a - b - 18446744073709551616 ∧ 0 < a - b ∨ wrap64 (a - b) = a - b + 18446744073709551616 ∧ a - b < 0 := by unfold wrap64; omega
      omega), fit64, if_neg hf]


def absd (a b : Int) : Int := if a < b then b - a else a - b
theorem Dist_eq (a b : Int) (a0 : -9223372036854775808 ≤ a) (a1 : a ≤ 9223372036854775807) (b0 : -9223372036854775808 ≤ b) (b1 : b ≤ 9223372036854775807) : exact_Dist.f a b = some (fit64 (absd a b)) := by
  unfold exact_Dist.f mx mn absd
  by_cases h : a < b
  · rw [if_pos h, if_pos h, if_neg (by omega), Sub_eq _ _ b0 b1 a0 a1]
    simp only [Option.bind_some]
  · rw [if_neg h, if_neg h]
    by_cases h2 : b < a
    · rw [if_pos h2, Sub_eq _ _ a0 a1 b0 b1]
      simp only [Option.bind_some]
    · obtain rfl : a = b := by omega
      rw [if_neg h2, Sub_eq _ _ a0 a1 a0 a1]
      simp only [Option.bind_some]

theorem refDiv_eq (a b : Int) (a0 : -9223372036854775808 ≤ a) (a1 : a ≤ 9223372036854775807) (hb : 1 ≤ b) (hb2 : b ≤ 9223372036854775807) : bellbuoyref01_Div.f a b = some (a / b, true) := by
  have q := quo_bounds a b hb
  have hw : -9223372036854775808 ≤ a / b ∧ a / b ≤ 9223372036854775807 := by
    by_cases hneg : a < 0
    · have := q.2 hneg; omega
    · have := q.1 (by omega); omega
  unfold bellbuoyref01_Div.f bellbuoyref01_Scale.f
  rw [if_neg (by omega), if_pos ⟨⟨a0, a1⟩, ⟨by omega, by omega⟩, ⟨by omega, hb2⟩⟩, Int.mul_one, fits, if_pos hw]
  rfl


theorem refMod_eq (a b : Int) (a0 : -9223372036854775808 ≤ a) (a1 : a ≤ 9223372036854775807) (hb : 1 ≤ b) (hb2 : b ≤ 9223372036854775807) : bellbuoyref01_Mod.f a b = some (a % b, true) := by
  have e := Int.mul_ediv_add_emod a b
  have m0 := Int.emod_nonneg a (b := b) (by omega)
  have m1 := Int.emod_lt_of_pos a (b := b) (by omega)
  have hw : -9223372036854775808 ≤ a / b ∧ a / b ≤ 9223372036854775807 := by
    constructor
    · refine (Int.le_ediv_iff_mul_le (by omega)).2 ?_
      have := Int.mul_le_mul_of_nonneg_left (a := 1) (b := b) (c := 9223372036854775808) hb (by omega)
      rw [Int.neg_mul]
      omega
    · have h1 : a / b < 9223372036854775808 := (Int.ediv_lt_iff_lt_mul (by omega)).2 (by
        have := Int.mul_le_mul_of_nonneg_left (a := 1) (b := b) (c := 9223372036854775808) hb (by omega)
        omega)
      omega
  unfold bellbuoyref01_Mod.f bellbuoyref01_Div.f bellbuoyref01_Scale.f
  rw [if_neg (by omega), if_pos ⟨⟨a0, a1⟩, ⟨by omega, by omega⟩, ⟨by omega, hb2⟩⟩, Int.mul_one, fits, if_pos hw]
  simp only [Option.bind_some, if_true]
  have hv : wrap64 (a - wrap64 (b * (a / b))) = a % b := by
    unfold wrap64
    generalize b * (a / b) = z at *
    omega
  rw [hv]


theorem Div_no (a b : Int) (h : b < 1) : exact_Div.f a b = some (0, false) := by unfold exact_Div.f; rw [if_pos h]
theorem Mod_no (a b : Int) (h : b < 1) : exact_Mod.f a b = some (0, false) := by unfold exact_Mod.f; rw [if_pos h]
theorem refDiv_no (a b : Int) (h : b < 1) : bellbuoyref01_Div.f a b = some (0, false) := by unfold bellbuoyref01_Div.f bellbuoyref01_Scale.f; rw [if_pos h]; rfl
theorem refMod_no (a b : Int) (h : b < 1) : bellbuoyref01_Mod.f a b = some (0, false) := by unfold bellbuoyref01_Mod.f; rw [refDiv_no a b h]; rfl
theorem refAdd_eq (a b : Int) (a0 : -9223372036854775808 ≤ a) (a1 : a ≤ 9223372036854775807) (b0 : -9223372036854775808 ≤ b) (b1 : b ≤ 9223372036854775807) : bellbuoyref01_Add.f a b = some (fit64 (a + b)) := by
  unfold bellbuoyref01_Add.f
  by_cases h1 : b > 0
  · rw [if_pos h1, wr64 (9223372036854775807 - b) (by omega) (by omega)]
    by_cases h2 : a > 9223372036854775807 - b
    · rw [if_pos h2, fit64_out (by omega)]
    · rw [if_neg h2, if_neg (by omega), fit64_in (by omega) (by omega), wr64 (a + b) (by omega) (by omega)]
  · rw [if_neg h1]
    by_cases h2 : b < 0
    · rw [if_pos h2, wr64 (-9223372036854775808 - b) (by omega) (by omega)]
      by_cases h3 : a < -9223372036854775808 - b
      · rw [if_pos h3, fit64_out (by omega)]
      · rw [if_neg h3, fit64_in (by omega) (by omega), wr64 (a + b) (by omega) (by omega)]
    · rw [if_neg h2, fit64_in (by omega) (by omega), wr64 (a + b) (by omega) (by omega)]
theorem refSub_eq (a b : Int) (a0 : -9223372036854775808 ≤ a) (a1 : a ≤ 9223372036854775807) (b0 : -9223372036854775808 ≤ b) (b1 : b ≤ 9223372036854775807) : bellbuoyref01_Sub.f a b = some (fit64 (a - b)) := by
  unfold bellbuoyref01_Sub.f
  by_cases h1 : b < 0
  · rw [if_pos h1, wr64 (9223372036854775807 + b) (by omega) (by omega)]
    by_cases h2 : a > 9223372036854775807 + b
    · rw [if_pos h2, fit64_out (by omega)]
    · rw [if_neg h2, if_neg (by omega), fit64_in (by omega) (by omega), wr64 (a - b) (by omega) (by omega)]
  · rw [if_neg h1]
    by_cases h2 : b > 0
    · rw [if_pos h2, wr64 (-9223372036854775808 + b) (by omega) (by omega)]
      by_cases h3 : a < -9223372036854775808 + b
      · rw [if_pos h3, fit64_out (by omega)]
      · rw [if_neg h3, fit64_in (by omega) (by omega), wr64 (a - b) (by omega) (by omega)]
    · rw [if_neg h2, fit64_in (by omega) (by omega), wr64 (a - b) (by omega) (by omega)]
theorem refDist_eq (a b : Int) (a0 : -9223372036854775808 ≤ a) (a1 : a ≤ 9223372036854775807) (b0 : -9223372036854775808 ≤ b) (b1 : b ≤ 9223372036854775807) : bellbuoyref01_Dist.f a b = some (fit64 (absd a b)) := by
  unfold bellbuoyref01_Dist.f absd
  by_cases h : a < b
  · rw [if_pos h, if_pos h, refSub_eq _ _ b0 b1 a0 a1]; rfl
  · rw [if_neg h, if_neg h, refSub_eq _ _ a0 a1 b0 b1]; rfl
theorem refClamp_eq (a b c : Int) : exact_Clamp.f a b c = bellbuoyref01_Clamp.f a b c := by
  unfold exact_Clamp.f bellbuoyref01_Clamp.f mn
  by_cases h1 : a < b
  · rw [if_pos h1, if_pos h1]
  · rw [if_neg h1, if_neg h1]
    by_cases h2 : c < a
    · rw [if_pos h2, if_pos (show a > c from h2)]
    · rw [if_neg h2, if_neg (show ¬ a > c from h2)]
theorem refMul_eq (a b : Int) (a0 : -9223372036854775808 ≤ a) (a1 : a ≤ 9223372036854775807) (b0 : -9223372036854775808 ≤ b) (b1 : b ≤ 9223372036854775807) : bellbuoyref01_Mul.f 131 a b = some (fits (a * b)) := by
  obtain ⟨P, hP, hP0, hP1⟩ := signs a b
  unfold bellbuoyref01_Mul.f
  rw [size_eq a a0 a1, size_eq b b0 b1]
  simp only [Option.bind_some]
  rw [times_eq _ _ (by split <;> omega) (by split <;> omega) (by split <;> omega) (by split <;> omega) 131 (by omega), hP]
  simp only [Option.bind_some]
  rw [signed_eq _ _ _ (by omega) (by omega) (by omega) _ (by omega), show P / 18446744073709551616 * 18446744073709551616 + P % 18446744073709551616 = P by omega, sgn, ← hP1]
  rfl
theorem live_eq : bellbuoylaw01_live.f = some true := by decide +kernel
end Go.Proofs.Ytpcfgommikclcaa.P
