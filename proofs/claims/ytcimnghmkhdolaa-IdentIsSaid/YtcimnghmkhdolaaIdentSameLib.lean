/- The program's bits are the reference's. Conditions: the ranges that each lemma names. -/
import Derived.Test.YtcimnghmkhdolaaIdentBackWalk
namespace Go.Proofs.Ytcimnghmkhdolaa.P
open Go.RowKit Go.Proofs.YtcimnghmkhdolaaW.PrintWords Go.Proofs.YtcimnghmkhdolaaW.PrintLast Go.Proofs.YtcimnghmkhdolaaW.PrintMore
set_option linter.unusedVariables false
set_option linter.unusedSimpArgs false
theorem bitL_low (x y : Int) (m : Nat) : ∀ j, j ≤ m → bitL (x * 2 ^ m + y) j = bitL y j
  | 0, _ => rfl
  | j + 1, hj => by
    obtain ⟨c, rfl⟩ : ∃ c, m = j + 1 + c := ⟨m - (j + 1), by omega⟩
    have e : x * 2 ^ (j + 1 + c) + y = y + (x * 2 ^ c * 2) * 2 ^ j := by
      rw [Int.pow_add, Int.pow_succ, Int.add_comm y, Int.mul_assoc x, Int.mul_assoc x, Int.mul_assoc (2 ^ j), Int.mul_comm (2 ^ j), Int.mul_comm 2 (2 ^ c)]
    have hd : (x * 2 ^ (j + 1 + c) + y) / 2 ^ j % 2 = y / 2 ^ j % 2 := by
      rw [e, Int.add_mul_ediv_right _ _ (Int.ne_of_gt (Int.pow_pos (by omega)))]
      generalize x * 2 ^ c = q
      omega
    rw [bitL, bitL, hd, bitL_low x y (j + 1 + c) j (by omega)]
theorem bitL_join (x y : Int) (m : Nat) (y0 : 0 ≤ y) (y1 : y < 2 ^ m) : ∀ w, bitL (x * 2 ^ m + y) (w + m) = bitL x w ++ bitL y m
  | 0 => by rw [Nat.zero_add, bitL_low x y m m (Nat.le_refl _)]; rfl
  | w + 1 => by
    have hp : (0 : Int) < 2 ^ m := Int.pow_pos (by omega)
    have hd : (x * 2 ^ m + y) / 2 ^ (w + m) = x / 2 ^ w := by
      rw [Nat.add_comm w m, Int.pow_add, ← Int.ediv_ediv_of_nonneg (by omega), Int.add_comm, Int.add_mul_ediv_right _ _ (by omega), Int.ediv_eq_zero_of_lt y0 y1, Int.zero_add]
    rw [show w + 1 + m = (w + m) + 1 by omega, bitL, hd, bitL_join x y m y0 y1 w, bitL]
    rfl
theorem bits_same (e : Bool) (n : Int) (r : Bool) (n0 : 0 ≤ n) (h : rightV e n = true) : bitsV e n r = refBits e n r := by
  have ha := askV_range r
  have p1 : (2 : Int) ^ 1 = 2 := rfl
  have p2 : (2 : Int) ^ 2 = 4 := rfl
  have p18 : (2 : Int) ^ 18 = 262144 := rfl
  have p19 : (2 : Int) ^ 19 = 524288 := rfl
  unfold bitsV refBits
  rw [if_pos h]
  cases e
  · have e : keyV false n r = ((n * 2 + askV r) * 2) * 2 ^ 19 + 0 := by
      unfold keyV
      simp only [Bool.false_eq_true, if_false]
      omega
    simp only [Bool.false_eq_true, if_false]
    rw [e, show (32 : Nat) = 13 + 19 from rfl, bitL_join _ 0 19 (by omega) (by omega) 13, List.take_append_of_le_length (by rw [bitL_len]; omega), List.take_of_length_le (by rw [bitL_len]; omega)]
  · have e : keyV true n r = ((n / 262144 * 2 ^ 2 + 3) * 2 ^ 18 + n % 262144) * 2 ^ 1 + askV r := by
      unfold keyV
      simp only [if_true]
      omega
    have e18 : bitL (n % 262144) 18 = bitL n 18 := by
      have := bitL_low (n / 262144) (n % 262144) 18 18 (Nat.le_refl _)
      rw [show n / 262144 * 2 ^ 18 + n % 262144 = n by omega] at this
      exact this.symm
    have e1 : bitL (askV r) 1 = [askV r] := by cases r <;> rfl
    simp only [if_true]
    rw [e, show (32 : Nat) = (13 + 18) + 1 from rfl, bitL_join _ _ 1 (by omega) (by omega) (13 + 18), bitL_join _ _ 18 (by omega) (by omega) 13, show (13 : Nat) = 11 + 2 from rfl, bitL_join _ 3 2 (by omega) (by omega) 11, e18, e1]
    rfl
end Go.Proofs.Ytcimnghmkhdolaa.P
