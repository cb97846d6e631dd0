/- Numbers as bits, most significant first: what layers 2 and 5 compute of them, in plain integers. Conditions: the ranges that each lemma names. -/
import Derived.Test.YtcimnghmkhdolaaPx7
namespace Go.Proofs.Ytcimnghmkhdolaa.P
open Go.RowKit Go.Proofs.YtcimnghmkhdolaaW.PrintWords Go.Proofs.YtcimnghmkhdolaaW.PrintLast Go.Proofs.YtcimnghmkhdolaaW.PrintMore
set_option linter.unusedVariables false
set_option linter.unusedSimpArgs false
def bitL (n : Int) : Nat → List Int
  | 0 => []
  | w + 1 => (n / 2 ^ w % 2) :: bitL n w
theorem bitL_len (n : Int) : ∀ w, (bitL n w).length = w
  | 0 => rfl
  | w + 1 => by simp [bitL, bitL_len n w]
def Bit (x : Int) : Prop := x = 0 ∨ x = 1
theorem bitL_bit (n : Int) : ∀ w, ∀ x ∈ bitL n w, Bit x
  | 0, x, h => by cases h
  | w + 1, x, h => by
    rcases List.mem_cons.1 h with rfl | h
    · show _ = _ ∨ _ = _
      generalize n / 2 ^ w = q
      omega
    · exact bitL_bit n w x h
def numF (acc : Int) (l : List Int) : Int := l.foldl (fun a b => a * 2 + b) acc
theorem numF_cons (acc x : Int) (l : List Int) : numF acc (x :: l) = numF (acc * 2 + x) l := rfl
theorem numF_append (acc : Int) (l m : List Int) : numF acc (l ++ m) = numF (numF acc l) m := by simp [numF, List.foldl_append]
theorem emod_two (n : Int) (w : Nat) : n % 2 ^ (w + 1) = (n / 2 ^ w % 2) * 2 ^ w + n % 2 ^ w := by
  have hp : (0 : Int) < 2 ^ w := Int.pow_pos (by omega)
  have e := Int.mul_ediv_add_emod n (2 ^ w)
  have r0 := Int.emod_nonneg n (b := 2 ^ w) (by omega)
  have r1 := Int.emod_lt_of_pos n hp
  rw [Int.pow_succ]
  refine ((Int.ediv_emod_unique (q := n / 2 ^ w / 2) (by omega)).2 ⟨?_, ?_, ?_⟩).2
  · generalize n / 2 ^ w = q at *
    generalize n % 2 ^ w = r at *
    generalize (2 : Int) ^ w = p at *
    have h : q = 2 * (q / 2) + q % 2 := by omega
    have h2 : p * 2 * (q / 2) + q % 2 * p = p * q := by
      conv => rhs; rw [h, Int.mul_add]
      rw [Int.mul_assoc, Int.mul_comm (q % 2) p]
    omega
  · rcases (by omega : n / 2 ^ w % 2 = 0 ∨ n / 2 ^ w % 2 = 1) with h | h <;> rw [h] <;> omega
  · rcases (by omega : n / 2 ^ w % 2 = 0 ∨ n / 2 ^ w % 2 = 1) with h | h <;> rw [h] <;> omega
theorem numF_bitL (n : Int) : ∀ (w : Nat) (acc : Int), numF acc (bitL n w) = acc * 2 ^ w + n % 2 ^ w
  | 0, acc => by simp [bitL, numF, Int.emod_one]
  | w + 1, acc => by
    rw [bitL, numF_cons, numF_bitL n w, emod_two, Int.add_mul, Int.pow_succ, Int.mul_assoc, Int.mul_comm 2 (2 ^ w)]
    omega
theorem numF_zeros : ∀ (m : Nat) (acc : Int), numF acc (List.replicate m 0) = acc * 2 ^ m
  | 0, acc => by simp [numF]
  | m + 1, acc => by
    rw [List.replicate_succ, numF_cons, numF_zeros m, Int.add_zero, Int.pow_succ, Int.mul_assoc, Int.mul_comm 2 (2 ^ m)]
theorem refOf_loop (n : Int) (n0 : 0 ≤ n) (n1 : n < 18446744073709551616) : ∀ (w : Nat), w ≤ 64 → ∀ (out : List Int), out.length + w < 140737488355328 → ∀ k, w + 1 ≤ k → bellbuoyref02_Of.l0 k n out ((w : Int) - 1) = some (out ++ bitL n w)
  | 0, _, out, _, k, hk => by
    obtain ⟨k, rfl⟩ : ∃ j, k = j + 1 := ⟨k - 1, by omega⟩
    rw [bellbuoyref02_Of.l0, if_neg (by omega), bitL, List.append_nil]
  | w + 1, hw, out, hl, k, hk => by
    obtain ⟨k, rfl⟩ : ∃ j, k = j + 1 := ⟨k - 1, by omega⟩
    have e : (((w + 1 : Nat) : Int) - 1) = (w : Int) := by omega
    have hp : (0 : Int) < 2 ^ w := Int.pow_pos (by omega)
    have q0 : 0 ≤ n / 2 ^ w := Int.ediv_nonneg n0 (by omega)
    have q1 : n / 2 ^ w ≤ n := Int.ediv_le_self _ n0
    rw [bellbuoyref02_Of.l0, e, if_pos (by omega), if_pos (by rw [u64w]; omega), if_pos (by omega), shr_u64 n w (by omega), and_one _ q0 (by omega), i64w _ (by omega) (by omega)]
    rw [show n / 2 ^ w % 2 % 256 = n / 2 ^ w % 2 by omega]
    rw [refOf_loop n n0 n1 w (by omega) _ (by simp; omega) k (by omega), bitL, List.append_assoc]
    rfl
theorem refOf_eq (n : Int) (n0 : 0 ≤ n) (n1 : n < 18446744073709551616) (w : Nat) (w0 : 1 ≤ w) (w1 : w ≤ 64) (k : Nat) (hk : w + 2 ≤ k) : bellbuoyref02_Of.f k n (w : Int) = some (bitL n w) := by
  obtain ⟨k, rfl⟩ : ∃ j, k = j + 1 := ⟨k - 1, by omega⟩
  unfold bellbuoyref02_Of.f
  rw [if_neg (by omega), bellbuoyref02_Of.j0, if_neg (by simp; omega), i64w _ (by omega) (by omega), refOf_loop n n0 n1 w w1 [] (by simp; omega) k (by omega), List.nil_append]
theorem num_loop (xs : List Int) (hb : ∀ x ∈ xs, Bit x) (hl : xs.length ≤ 64) : ∀ (m i : Nat), i + m = xs.length → ∀ (acc : Int), 0 ≤ acc → acc < 2 ^ i → ∀ k, m + 1 ≤ k → bellbuoyref02_Number.l0 k xs acc (i : Int) = some (numF acc (xs.drop i))
  | 0, i, hi, acc, _, _, k, hk => by
    obtain ⟨k, rfl⟩ : ∃ j, k = j + 1 := ⟨k - 1, by omega⟩
    rw [bellbuoyref02_Number.l0, if_neg (by omega), List.drop_of_length_le (by omega)]
    rfl
  | m + 1, i, hi, acc, a0, a1, k, hk => by
    obtain ⟨k, rfl⟩ : ∃ j, k = j + 1 := ⟨k - 1, by omega⟩
    have hlt : i < xs.length := by omega
    have hx := hb _ (List.getElem_mem hlt)
    have hrd : rd xs (i : Int) = xs[i] := by
      unfold rd
      rw [Int.toNat_natCast, List.getD_eq_getElem?_getD, List.getElem?_eq_getElem hlt]
      rfl
    have hone : bellbuoyref02_one.f (rd xs (i : Int)) = some (xs[i]) := by
      rw [hrd]
      unfold bellbuoyref02_one.f
      rcases hx with h | h <;> rw [h] <;> rfl
    have hx0 : 0 ≤ xs[i] ∧ xs[i] ≤ 1 := by rcases hx with h | h <;> rw [h] <;> omega
    have hp : (2 : Int) ^ (i + 1) ≤ 2 ^ 64 := by
      have := Nat.pow_le_pow_right (n := 2) (by omega) (show i + 1 ≤ 64 by omega)
      exact_mod_cast this
    have h64 : (2 : Int) ^ 64 = 18446744073709551616 := rfl
    have hs : (2 : Int) ^ (i + 1) = 2 ^ i * 2 := Int.pow_succ ..
    rw [bellbuoyref02_Number.l0, if_pos (by omega), if_pos (by omega), hone]
    simp only [Option.bind_some]
    have e1 : (i : Int) + 1 = ((i + 1 : Nat) : Int) := rfl
    rw [u64w (acc * 2), u64w xs[i], u64w, Int.emod_eq_of_lt (by omega : 0 ≤ acc * 2) (by omega), Int.emod_eq_of_lt hx0.1 (by omega), Int.emod_eq_of_lt (by omega : 0 ≤ acc * 2 + xs[i]) (by omega), i64w _ (by omega) (by omega), e1,
      num_loop xs hb hl m (i + 1) (by omega) _ (by omega) (by omega) k (by omega), List.drop_eq_getElem_cons hlt, numF_cons]
theorem refNumber_eq (xs : List Int) (hb : ∀ x ∈ xs, Bit x) (hl : xs.length ≤ 64) (k : Nat) (hk : xs.length + 1 ≤ k) : bellbuoyref02_Number.f k xs = some (numF 0 xs) := by
  have := num_loop xs hb hl xs.length 0 (by omega) 0 (by omega) (by decide) k hk
  exact this
end Go.Proofs.Ytcimnghmkhdolaa.P
