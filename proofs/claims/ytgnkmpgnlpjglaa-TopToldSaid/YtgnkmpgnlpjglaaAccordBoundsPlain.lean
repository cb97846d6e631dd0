/- A config's slope and bounds, in plain integers. Conditions: the numbers are within 64 bits. -/
import Derived.Test.YtgnkmpgnlpjglaaAccordSmall
namespace Go.Proofs.Ytgnkmpgnlpjglaa.P
open Go.RowKit Go.Proofs.YtgnkmpgnlpjglaaW.PrintWords Go.Proofs.YtgnkmpgnlpjglaaW.PrintLast Go.Proofs.YtgnkmpgnlpjglaaW.PrintMore
set_option linter.unusedVariables false
set_option linter.unusedSimpArgs false
def rB (n d t : Int) : Bool := rightB n d && decide (0 ≤ t ∧ t ≤ 4096)
theorem accRight_eq (n d t : Int) (n0 : -9223372036854775808 ≤ n) (n1 : n ≤ 9223372036854775807) : accord_Right.f n d t = some (rB n d t) := by
  unfold accord_Right.f accord_within.f exact_Clamp.f mn rB
  rw [Right_eq n d n0 n1]
  cases h : rightB n d with
  | false => rfl
  | true =>
    simp only [Option.bind_some, if_true, Bool.true_and]
    by_cases h1 : t < 0
    · rw [if_pos h1]
      simp only [Option.bind_some]
      congr 1
      rw [Bool.eq_iff_iff, beq_iff_eq, decide_eq_true_eq]; omega
    · rw [if_neg h1]
      simp only [Option.bind_some]
      congr 1
      rw [Bool.eq_iff_iff, beq_iff_eq, decide_eq_true_eq]
      split <;> omega
theorem rB_facts {n d t : Int} (h : rB n d t = true) : 1 ≤ n ∧ n ≤ 1048576 ∧ 0 ≤ d ∧ d < n ∧ 0 ≤ t ∧ t ≤ 4096 := by
  unfold rB at h
  rw [Bool.and_eq_true] at h
  have h1 := of_decide_eq_true h.1
  have h2 := of_decide_eq_true h.2
  omega
def slopeV (n d t : Int) : Int := 2 * d + (n + d) * t / 1048576 + if (n + d) * t % 1048576 > 0 then 1 else 0
theorem prod_range {n d t : Int} (h : 1 ≤ n ∧ n ≤ 1048576 ∧ 0 ≤ d ∧ d < n ∧ 0 ≤ t ∧ t ≤ 4096) : 0 ≤ (n + d) * t ∧ (n + d) * t ≤ 8589934592 := by
  have h1 : (n + d) * t ≤ (n + d) * 4096 := Int.mul_le_mul_of_nonneg_left h.2.2.2.2.2 (by omega)
  have h2 := Int.mul_nonneg (show 0 ≤ n + d by omega) h.2.2.2.2.1
  omega
theorem slope_range {n d t : Int} (h : 1 ≤ n ∧ n ≤ 1048576 ∧ 0 ≤ d ∧ d < n ∧ 0 ≤ t ∧ t ≤ 4096) : 0 ≤ slopeV n d t ∧ slopeV n d t ≤ 2105345 := by
  have := prod_range h
  unfold slopeV
  split <;> omega
theorem accSlope_eq (n d t : Int) (h : rB n d t = true) : accord_Slope.f n d t = some (slopeV n d t) := by
  have f := rB_facts h
  have p := prod_range f
  unfold accord_Slope.f
  rw [accRight_eq n d t (by omega) (by omega), h]
  simp only [Option.bind_some, if_true]
  have e1 : wrap64 (n + d) = n + d := wr64 _ (by omega) (by omega)
  have e2 : wrap64 (-(n + d)) = -(n + d) := wr64 _ (by omega) (by omega)
  rw [e1, e2]
  unfold exact_Scale.f
  rw [if_neg (by omega), if_pos ⟨by unfold In64; omega, by unfold In64; omega, by unfold In64; omega⟩, Int.neg_mul]
  unfold slopeV
  generalize (n + d) * t = P at *
  have e3 : fits (-P / 1048576) = (-P / 1048576, true) := by unfold fits; rw [if_pos (by omega)]
  rw [e3]
  simp only [Option.bind_some]
  rw [wr64 (2 * d) (by omega) (by omega), wr64 _ (by omega) (by omega)]
  congr 1
  split <;> omega
theorem accSlope_no (n d t : Int) (n0 : -9223372036854775808 ≤ n) (n1 : n ≤ 9223372036854775807) (h : rB n d t = false) : accord_Slope.f n d t = some 0 := by
  unfold accord_Slope.f
  rw [accRight_eq n d t n0 n1, h]
  rfl
def boundV (n d t b : Int) : Int × Bool := if rB n d t = true ∧ 0 ≤ b ∧ b ≤ 1099511627776 then (slopeV n d t * b + 4, true) else (0, false)
theorem bound_prod {s b : Int} (s0 : 0 ≤ s) (s1 : s ≤ 2105345) (b0 : 0 ≤ b) (b1 : b ≤ 1099511627776) : 0 ≤ s * b ∧ s * b ≤ 2314851308030853120 := by
  have h1 : s * b ≤ 2105345 * b := Int.mul_le_mul_of_nonneg_right s1 b0
  have h2 := Int.mul_nonneg s0 b0
  omega
theorem accBound_eq (n d t b : Int) (n0 : -9223372036854775808 ≤ n) (n1 : n ≤ 9223372036854775807) (k : Nat) : accord_Bound.f (k + 1) n d t b = some (boundV n d t b) := by
  unfold accord_Bound.f boundV
  rw [accRight_eq n d t n0 n1]
  simp only [Option.bind_some]
  cases h : rB n d t with
  | false =>
    rw [if_neg (by decide), accord_Bound.j0, if_pos rfl, if_neg (by rintro ⟨x, _⟩; cases x)]
  | true =>
    rw [if_pos rfl]
    have hw : accord_within.f b 1099511627776 = some (decide (0 ≤ b ∧ b ≤ 1099511627776)) := by
      unfold accord_within.f exact_Clamp.f mn
      by_cases h1 : b < 0
      · rw [if_pos h1]
        simp only [Option.bind_some]
        congr 1
        rw [Bool.eq_iff_iff, beq_iff_eq, decide_eq_true_eq]; omega
      · rw [if_neg h1]
        simp only [Option.bind_some]
        congr 1
        rw [Bool.eq_iff_iff, beq_iff_eq, decide_eq_true_eq]
        split <;> omega
    rw [hw]
    simp only [Option.bind_some]
    by_cases hb : 0 ≤ b ∧ b ≤ 1099511627776
    · have f := slope_range (rB_facts h)
      have q := bound_prod f.1 f.2 hb.1 hb.2
      rw [decide_eq_true hb, accord_Bound.j0, if_neg (by decide), accSlope_eq n d t h]
      simp only [Option.bind_some]
      unfold exact_Mul.f
      rw [if_pos ⟨by unfold In64; omega, by unfold In64; omega⟩]
      generalize slopeV n d t * b = P at *
      rw [show fits P = (P, true) by unfold fits; rw [if_pos (by omega)]]
      simp only [Option.bind_some, if_true]
      rw [Add_eq P 4 (by omega) (by omega) (by omega) (by omega), fit64_in (by omega) (by omega)]
      simp only [Option.bind_some]
      rw [if_pos ⟨trivial, hb⟩]
    · rw [decide_eq_false hb, accord_Bound.j0, if_pos (by decide), if_neg (fun x => hb x.2)]
