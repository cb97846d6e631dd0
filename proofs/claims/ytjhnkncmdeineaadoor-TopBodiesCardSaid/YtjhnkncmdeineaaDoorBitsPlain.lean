/- Bits of a number, plainly: strand.Of's answer and a string's number. Conditions: the ranges that each lemma names. -/
import Derived.Test.YtjhnkncmdeineaaDoorStrandIter
import Derived.Test.YtjhnkncmdeineaaDoorPx
namespace Go.Proofs.YtjhnkncmdeineaaDoor.P
open Go.RowKit Go.Proofs.YtjhnkncmdeineaaDoorW.PrintWords Go.Proofs.YtjhnkncmdeineaaDoorW.PrintLast Go.Proofs.YtjhnkncmdeineaaDoorW.PrintMore
set_option linter.unusedVariables false
set_option linter.unusedSimpArgs false
def bitL (n : Int) : Nat → List Int
  | 0 => []
  | w + 1 => (n / 2 ^ w % 2) :: bitL n w
theorem bitL_len (n : Int) : ∀ w, (bitL n w).length = w
  | 0 => rfl
  | w + 1 => by simp [bitL, bitL_len n w]
theorem set_zero (b : Int) (L : List Int) : ∀ m : Nat, (List.replicate (m + 1) (0 : Int) ++ L).set m b = List.replicate m 0 ++ b :: L
  | 0 => rfl
  | m + 1 => by
    rw [List.replicate_succ, List.cons_append, List.set_cons_succ, set_zero b L m, List.replicate_succ, List.cons_append]
theorem of_loop (W : Nat) (hW : 1 ≤ W) (hW2 : W ≤ 64) (N : Int) (n0 : 0 ≤ N) (n1 : N < 18446744073709551616) : ∀ (m i : Nat), i + m = W → ∀ k, m + 1 ≤ k → strand_Of.l0 k (N / 2 ^ i) W (List.replicate m 0 ++ bitL N i) W (i : Int) = some (bitL N W)
  | 0, i, hi, k, hk => by
    obtain ⟨k, rfl⟩ : ∃ j, k = j + 1 := ⟨k - 1, by omega⟩
    obtain rfl : i = W := by omega
    rw [strand_Of.l0, if_neg (by omega)]
    rfl
  | m + 1, i, hi, k, hk => by
    obtain ⟨k, rfl⟩ : ∃ j, k = j + 1 := ⟨k - 1, by omega⟩
    have q0 : 0 ≤ N / 2 ^ i := Int.ediv_nonneg n0 (Int.le_of_lt (Int.pow_pos (by omega)))
    have q1 : N / 2 ^ i ≤ N := Int.ediv_le_self _ n0
    have e1 : (i : Int) + 1 = ((i + 1 : Nat) : Int) := rfl
    have e2 : wrap64 (wrap64 ((W : Int) - 1) - (i : Int)) = (m : Int) := by rw [i64w ((W : Int) - 1) (by omega) (by omega), i64w _ (by omega) (by omega)]; omega
    rw [strand_Of.l0, if_pos (by omega), e2, if_pos (by omega), if_pos (by simp [bitL_len]; omega), and_one _ q0 (by omega), Int.toNat_natCast, set_zero, ← pow_half, i64w _ (by omega) (by omega), e1,
      show N / 2 ^ i % 2 % 256 = N / 2 ^ i % 2 by omega]
    exact of_loop W hW hW2 N n0 n1 m (i + 1) (by omega) k (by omega)
theorem Of_eq (W : Nat) (hW : 1 ≤ W) (hW2 : W ≤ 64) (N : Int) (n0 : 0 ≤ N) (n1 : N < 18446744073709551616) (k : Nat) (hk : W + 2 ≤ k) : strand_Of.f k N W = some (bitL N W) := by
  obtain ⟨k, rfl⟩ : ∃ j, k = j + 1 := ⟨k - 1, by omega⟩
  have h := of_loop W hW hW2 N n0 n1 W 0 (by omega) k (by omega)
  unfold strand_Of.f
  rw [if_neg (by omega), strand_Of.j0, if_neg (by rw [decide_eq_true_eq]; omega), if_pos (by omega), if_pos (by omega)]
  simp only [Option.bind_some]
  rw [show (((List.replicate ((W : Int)).toNat (0 : Int)).length : Nat) : Int) = (W : Int) by simp, Int.toNat_natCast]
  rw [Int.pow_zero, Int.ediv_one, show bitL N 0 = [] from rfl, List.append_nil] at h
  exact h
theorem bitL_app (N : Int) (b : Nat) : ∀ a, bitL N (a + b) = bitL (N / 2 ^ b) a ++ bitL N b
  | 0 => by rw [Nat.zero_add]; rfl
  | a + 1 => by
    rw [show a + 1 + b = (a + b) + 1 by omega, bitL, bitL_app N b a, bitL, List.cons_append, Int.ediv_ediv_of_nonneg (Int.le_of_lt (Int.pow_pos (by omega))), ← Int.pow_add, Nat.add_comm b a]
theorem tru_bit (x : Int) : tru (x % 2) = x % 2 := by
  rcases Int.emod_two_eq x with h | h <;> rw [h] <;> rfl
theorem numV_from (N : Int) : ∀ (w : Nat) (acc : Int), 0 ≤ acc → (acc + 1) * 2 ^ w ≤ 9223372036854775808 → (bitL N w).foldl (fun n x => numF n (tru x)) acc = acc * 2 ^ w + N % 2 ^ w
  | 0, acc, h0, h1 => by
    show acc = acc * 2 ^ 0 + N % 2 ^ 0
    rw [Int.pow_zero]
    omega
  | w + 1, acc, h0, h1 => by
    have hp : (0 : Int) < 2 ^ w := Int.pow_pos (by omega)
    have e : (2 : Int) ^ (w + 1) = 2 ^ w * 2 := Int.pow_succ 2 w
    have hb : acc * 2 < 9223372036854775808 := by
      have : (acc + 1) * 2 ≤ (acc + 1) * 2 ^ (w + 1) := by
        apply Int.mul_le_mul_of_nonneg_left _ (by omega)
        rw [e]; omega
      omega
    have hbit : 0 ≤ N / 2 ^ w % 2 ∧ N / 2 ^ w % 2 ≤ 1 := by omega
    have e1 : numF acc (tru (N / 2 ^ w % 2)) = acc * 2 + N / 2 ^ w % 2 := by
      rw [numF, tru_bit, u64w, u64w, Int.emod_eq_of_lt (by omega) (by omega), Int.emod_eq_of_lt (by omega) (by omega), or_even _ _ (by omega) (by omega) (by omega) hbit.1 hbit.2]
    have hm : N % 2 ^ (w + 1) = N / 2 ^ w % 2 * 2 ^ w + N % 2 ^ w := by
      have d1 := Int.mul_ediv_add_emod N (2 ^ w)
      have d2 := Int.mul_ediv_add_emod (N / 2 ^ w) 2
      have d3 : N = 2 ^ (w + 1) * (N / 2 ^ w / 2) + (N / 2 ^ w % 2 * 2 ^ w + N % 2 ^ w) := by
        rw [e]
        generalize N / 2 ^ w = q at *
        generalize N % 2 ^ w = r at *
        generalize (2 : Int) ^ w = P at *
        have : P * q = P * (2 * (q / 2) + q % 2) := by rw [d2]
        rw [Int.mul_add, ← Int.mul_assoc] at this
        rw [Int.mul_comm (q % 2) P]
        omega
      have r1 := Int.emod_nonneg N (show (2 : Int) ^ w ≠ 0 by omega)
      have r2 := Int.emod_lt_of_pos N hp
      have m1 : N / 2 ^ w % 2 * 2 ^ w ≤ 1 * 2 ^ w := Int.mul_le_mul_of_nonneg_right hbit.2 (by omega)
      have m0 : 0 ≤ N / 2 ^ w % 2 * 2 ^ w := Int.mul_nonneg hbit.1 (by omega)
      have lo : 0 ≤ N / 2 ^ w % 2 * 2 ^ w + N % 2 ^ w := by omega
      have hi : N / 2 ^ w % 2 * 2 ^ w + N % 2 ^ w < 2 ^ (w + 1) := by rw [e]; omega
      obtain ⟨Q, hQ⟩ : ∃ Q, N / 2 ^ w / 2 = Q := ⟨_, rfl⟩
      obtain ⟨R, hR⟩ : ∃ R, N / 2 ^ w % 2 * 2 ^ w + N % 2 ^ w = R := ⟨_, rfl⟩
      rw [hQ, hR] at d3
      rw [hR] at lo hi ⊢
      rw [d3, Int.add_comm, Int.add_mul_emod_self_left, Int.emod_eq_of_lt lo hi]
    show (bitL N w).foldl (fun n x => numF n (tru x)) (numF acc (tru (N / 2 ^ w % 2))) = _
    have hx : (acc * 2 + N / 2 ^ w % 2 + 1) * 2 ^ w ≤ 9223372036854775808 := by
      have h2 : (acc * 2 + N / 2 ^ w % 2 + 1) * 2 ^ w ≤ (acc * 2 + 2) * 2 ^ w := Int.mul_le_mul_of_nonneg_right (by omega) (by omega)
      have h3 : (acc * 2 + 2) * 2 ^ w = (acc + 1) * 2 ^ (w + 1) := by
        rw [e, Int.mul_comm (2 ^ w) 2, ← Int.mul_assoc]
        congr 1
        omega
      omega
    rw [e1, numV_from N w _ (by omega) hx, hm, Int.add_mul, e, Int.mul_assoc, Int.mul_comm 2, Int.add_assoc]
theorem numV_bits (N : Int) (w : Nat) (hw : w ≤ 63) : numV (bitL N w) = N % 2 ^ w := by
  have : (2 : Int) ^ w ≤ 2 ^ 63 := by
    have := Nat.pow_le_pow_right (n := 2) (by omega) hw
    exact_mod_cast this
  rw [numV, numV_from N w 0 (by omega) (by omega), Int.zero_mul, Int.zero_add]
theorem and_62 (a : Int) (ha : 0 ≤ a) (ha2 : a < 18446744073709551616) : bits .and .u64 a 4611686018427387903 = a % 4611686018427387904 := by
  rw [u64_and a 4611686018427387903 ha ha2 (by omega) (by omega)]
  have h : (4611686018427387903 : Int).toNat = 2 ^ 62 - 1 := rfl
  rw [h, Nat.and_two_pow_sub_one_eq_mod]
  omega
end Go.Proofs.YtjhnkncmdeineaaDoor.P
