/- What the reference takes a key for is what the program does. Conditions: the range of a key. -/
import Derived.Test.YtcimnghmkhdolaaIdentSameLib
namespace Go.Proofs.Ytcimnghmkhdolaa.P
open Go.RowKit Go.Proofs.YtcimnghmkhdolaaW.PrintWords Go.Proofs.YtcimnghmkhdolaaW.PrintLast Go.Proofs.YtcimnghmkhdolaaW.PrintMore
set_option linter.unusedVariables false
set_option linter.unusedSimpArgs false
theorem and1n (n : Int) (n0 : 0 ≤ n) (n1 : n < 4294967296) : Go.bits .and .u32 n 1 = n % 2 := by
  have h : (BitVec.ofInt 32 1).toNat = 2 ^ 1 - 1 := by decide
  have key : (BitVec.ofInt 32 n &&& BitVec.ofInt 32 1).toNat = (n % ((2 ^ 32 : Nat) : Int)).toNat % 2 ^ 1 := by
    rw [BitVec.toNat_and, BitVec.toNat_ofInt, h, Nat.and_two_pow_sub_one_eq_mod]
  show IntKind.u32.wrap ((BitVec.ofInt 32 n &&& BitVec.ofInt 32 1).toNat : Nat) = n % 2
  rw [key, IntKind.wrap_u32]
  omega
def ofR (x : Int) : Bool × Int × Bool × Bool := if x / 524288 % 2 = 0 then (false, x / 2097152, (x / 1048576 % 2) == 1, (x * 8192 % 4294967296) == 0) else (true, x / 2097152 * 262144 + x / 2 % 262144, (x % 2) == 1, (x / 1048576 % 2) == 1)
theorem refOf_eqV (x : Int) (x0 : 0 ≤ x) (x1 : x < 4294967296) : bellbuoyref05_Of.f x = some (ofR x) := by
  have p18 : (2 : Int) ^ 18 = 262144 := rfl
  unfold bellbuoyref05_Of.f ofR
  rw [and1n _ (by omega) (by omega), and1n _ (by omega) (by omega), and1n _ (by omega) (by omega), and18 _ (by omega) (by omega), Int.emod_eq_of_lt (by omega : 0 ≤ x / 2097152 * 262144) (by omega), or32k 18 _ _ (by omega) (by omega) (by rw [p18]; omega) (by omega) (by rw [p18]; omega) (by omega)]
  by_cases h : x / 524288 % 2 = 0
  · rw [if_pos h, if_pos h]
  · rw [if_neg h, if_neg h]
theorem ask_bit (q : Int) (h : q = 0 ∨ q = 1) : askV (q == 1) = q := by rcases h with rfl | rfl <;> rfl
/-- What the reference says yes to is a key, of that. -/
theorem ofR_key (x : Int) (x0 : 0 ≤ x) (x1 : x < 4294967296) (h : (ofR x).2.2.2 = true) : 0 ≤ (ofR x).2.1 ∧ rightV (ofR x).1 (ofR x).2.1 = true ∧ keyV (ofR x).1 (ofR x).2.1 (ofR x).2.2.1 = x := by
  unfold ofR at *
  by_cases hb : x / 524288 % 2 = 0
  · rw [if_pos hb] at *
    have h' : x * 8192 % 4294967296 = 0 := by simpa using h
    refine ⟨by show 0 ≤ x / 2097152; omega, ?_, ?_⟩
    · show (x / 2097152 / 2048 == 0) = true
      rw [beq_iff_eq]; omega
    · show x / 2097152 * 2097152 + askV ((x / 1048576 % 2) == 1) * 1048576 = x
      rw [ask_bit _ (by omega)]
      omega
  · rw [if_neg hb] at *
    have h' : x / 1048576 % 2 = 1 := by simpa using h
    refine ⟨by show 0 ≤ x / 2097152 * 262144 + x / 2 % 262144; omega, ?_, ?_⟩
    · show ((x / 2097152 * 262144 + x / 2 % 262144) / 536870912 == 0) = true
      rw [beq_iff_eq]; omega
    · show (x / 2097152 * 262144 + x / 2 % 262144) / 262144 * 2097152 + 1572864 + (x / 2097152 * 262144 + x / 2 % 262144) % 262144 * 2 + askV ((x % 2) == 1) = x
      rw [ask_bit _ (by omega)]
      omega
/-- And to each key it says yes. -/
theorem key_ofR (e : Bool) (n : Int) (r : Bool) (n0 : 0 ≤ n) (h : rightV e n = true) : (ofR (keyV e n r)).2.2.2 = true := by
  have ha := askV_range r
  unfold ofR keyV
  cases e
  · have := right_std n0 h
    simp only [Bool.false_eq_true, if_false]
    rw [if_pos (by omega)]
    show ((n * 2097152 + askV r * 1048576) * 8192 % 4294967296 == 0) = true
    rw [beq_iff_eq]; omega
  · have := right_ext n0 h
    simp only [if_true]
    rw [if_neg (by omega)]
    show ((n / 262144 * 2097152 + 1572864 + n % 262144 * 2 + askV r) / 1048576 % 2 == 1) = true
    rw [beq_iff_eq]; omega
theorem OfKey_eq (x : Int) (x0 : 0 ≤ x) (x1 : x < 4294967296) : bellbuoyref05_OfKey.f x = some (ofV x) := by
  unfold bellbuoyref05_OfKey.f
  rw [refOf_eqV x x0 x1]
  simp only [Option.bind_some]
  by_cases h : (ofR x).2.2.2 = true
  · obtain ⟨h0, h1, h2⟩ := ofR_key x x0 x1 h
    have := ofV_key _ _ (ofR x).2.2.1 h0 h1
    rw [h2] at this
    rw [if_pos h, this]
  · rw [if_neg h]
    have none : ∀ f m s, 0 ≤ m → keyF f m s ≠ x := fun f m s m0 hk => by
      unfold keyF at hk
      cases hr : rightV f m with
      | true => rw [hr, if_pos rfl] at hk; exact h (by rw [← hk]; exact key_ofR f m s m0 hr)
      | false =>
        rw [hr] at hk
        have hz : x = 0 := by simpa using hk.symm
        exact h (by rw [hz]; decide +kernel)
    have c0 : 0 ≤ ofC x := by unfold ofC; omega
    unfold ofV
    rw [if_neg (none _ _ _ (by omega)), if_neg (none _ _ _ c0), if_neg (none _ _ _ (by omega)), if_neg (none _ _ _ c0)]
end Go.Proofs.Ytcimnghmkhdolaa.P
