/- Bytes of a number, plainly: what its bits are packed to, and what the bytes' bits are. Conditions: those that each lemma names. -/
import Derived.Test.YtgnkmpgnlpjglaaTopPack
namespace Go.Proofs.Ytgnkmpgnlpjglaa.P
open Go.RowKit Go.Proofs.YtgnkmpgnlpjglaaW.PrintWords Go.Proofs.YtgnkmpgnlpjglaaW.PrintLast Go.Proofs.YtgnkmpgnlpjglaaW.PrintMore Go.Shelf
set_option linter.unusedVariables false
set_option linter.unusedSimpArgs false
theorem or_tab : ∀ (p : Fin 256) (j : Fin 8) (b : Fin 2), p.1 % 2 ^ (8 - j.1) = 0 → Go.bits .or .u8 (p.1 : Int) ((b.1 : Int) * 2 ^ min (IntKind.u64.wrap (7 - (j.1 : Int))).toNat 8 % 256) = (p.1 : Int) + (b.1 : Int) * 2 ^ (7 - j.1) := by decide +kernel
theorem and_7 (i : Nat) (h : i < 18446744073709551616) : Go.bits .and .u64 (i : Int) 7 = ((i % 8 : Nat) : Int) := by
  rw [u64_and (i : Int) 7 (by omega) (by omega) (by omega) (by omega)]
  have h7 : (7 : Int).toNat = 2 ^ 3 - 1 := rfl
  rw [h7, Nat.and_two_pow_sub_one_eq_mod]
  simp
/-- The first j bits of byte q. -/
def partB (f : Nat → Int) (q : Nat) : Nat → Int
  | 0 => 0
  | j + 1 => partB f q j + f (8 * q + j) * 2 ^ (7 - j)
theorem partB_ok {f : Nat → Int} (hf : ∀ i, 0 ≤ f i ∧ f i ≤ 1) (q : Nat) : ∀ j, j ≤ 8 → 0 ≤ partB f q j ∧ partB f q j + 2 ^ (8 - j) ≤ 256 ∧ ((2 : Int) ^ (8 - j)) ∣ partB f q j
  | 0, _ => ⟨Int.le_refl _, by show (0 : Int) + 2 ^ 8 ≤ 256; decide, Int.dvd_zero _⟩
  | j + 1, h => by
    obtain ⟨h0, h1, h2⟩ := partB_ok hf q j (by omega)
    have e : (2 : Int) ^ (8 - j) = 2 ^ (8 - (j + 1)) * 2 := by rw [show 8 - j = (8 - (j + 1)) + 1 by omega, Int.pow_succ]
    have e7 : 7 - j = 8 - (j + 1) := by omega
    have hp : (0 : Int) < 2 ^ (8 - (j + 1)) := Int.pow_pos (by omega)
    have hb := hf (8 * q + j)
    have hm : f (8 * q + j) * 2 ^ (8 - (j + 1)) ≤ 1 * 2 ^ (8 - (j + 1)) := Int.mul_le_mul_of_nonneg_right hb.2 (by omega)
    have hn : 0 ≤ f (8 * q + j) * 2 ^ (8 - (j + 1)) := Int.mul_nonneg hb.1 (by omega)
    rw [e] at h1 h2
    show 0 ≤ partB f q j + f (8 * q + j) * 2 ^ (7 - j) ∧ partB f q j + f (8 * q + j) * 2 ^ (7 - j) + 2 ^ (8 - (j + 1)) ≤ 256 ∧ _ ∣ partB f q j + f (8 * q + j) * 2 ^ (7 - j)
    rw [e7]
    exact ⟨by omega, by omega, Int.dvd_add (Int.dvd_trans (Int.dvd_mul_right _ _) h2) (Int.dvd_mul_left _ _)⟩
theorem or_part {f : Nat → Int} (hf : ∀ i, 0 ≤ f i ∧ f i ≤ 1) (q j : Nat) (hj : j < 8) (hq : 8 * q + j < 18446744073709551616) :
    Go.bits .or .u8 (partB f q j) (f (8 * q + j) * 2 ^ min (IntKind.u64.wrap (7 - Go.bits .and .u64 ((8 * q + j : Nat) : Int) 7)).toNat 8 % 256) = partB f q (j + 1) := by
  obtain ⟨h0, h1, h2⟩ := partB_ok hf q j (by omega)
  have hb := hf (8 * q + j)
  have hp : (0 : Int) < 2 ^ (8 - j) := Int.pow_pos (by omega)
  rw [and_7 _ hq, show (8 * q + j) % 8 = j by omega]
  have h := or_tab ⟨(partB f q j).toNat, by omega⟩ ⟨j, hj⟩ ⟨(f (8 * q + j)).toNat, by omega⟩ (by
    have h3 := Int.emod_eq_zero_of_dvd h2
    have : (((partB f q j).toNat % 2 ^ (8 - j) : Nat) : Int) = 0 := by
      rw [Int.natCast_emod, Int.toNat_of_nonneg h0, Int.natCast_pow]
      exact h3
    exact_mod_cast this)
  simp only [Int.toNat_of_nonneg h0, Int.toNat_of_nonneg hb.1] at h
  exact h
theorem fin_fold (m : Nat) (f : Nat → Int) (len : Nat) : pkP m f (List.finRange len) = (List.range len).foldl (fun l i => pkF l i (f i)) (List.replicate m 0) := by
  have e : (List.finRange len).map (fun x : Fin len => x.val) = List.range len := by
    apply List.ext_getElem
    · simp
    · intro i h1 h2
      simp
  rw [← e, List.foldl_map]
  rfl
theorem pk_state {f : Nat → Int} (hf : ∀ i, 0 ≤ f i ∧ f i ≤ 1) (m : Nat) (hm : m ≤ 1000) : ∀ i, i ≤ 8 * m → (List.range i).foldl (fun l i => pkF l i (f i)) (List.replicate m 0) = (List.range m).map (fun q => partB f q (min 8 (i - 8 * q)))
  | 0, _ => by
    show List.replicate m 0 = _
    apply List.ext_getElem
    · simp
    · intro i h1 h2
      simp [partB]
  | i + 1, h => by
    rw [List.range_succ, List.foldl_append, pk_state hf m hm i (by omega)]
    show pkF _ i (f i) = _
    unfold pkF
    have hq : i / 8 < m := by omega
    have ei : i = 8 * (i / 8) + i % 8 := by omega
    rw [List.getElem?_map, List.getElem?_range hq]
    simp only [Option.map_some, Option.getD_some]
    rw [show min 8 (i - 8 * (i / 8)) = i % 8 by omega]
    have ho := or_part hf (i / 8) (i % 8) (by omega) (by omega)
    rw [← ei] at ho
    rw [ho]
    apply List.ext_getElem
    · simp
    · intro q h1 h2
      simp only [List.getElem_set, List.getElem_map, List.getElem_range]
      split
      · next e =>
        subst e
        congr 1
        omega
      · next e =>
        congr 1
        simp only [List.length_map, List.length_range] at h2
        omega
/-- A number's bytes, the highest one first. -/
def byteL (n : Int) : Nat → List Int
  | 0 => []
  | m + 1 => (n / 2 ^ (8 * m) % 256) :: byteL n m
theorem byteL_len (n : Int) : ∀ m, (byteL n m).length = m
  | 0 => rfl
  | m + 1 => by simp [byteL, byteL_len n m]
theorem byteL_get (n : Int) : ∀ (m q : Nat), q < m → (byteL n m)[q]? = some (n / 2 ^ (8 * (m - 1 - q)) % 256)
  | 0, q, h => by omega
  | m + 1, 0, h => by simp [byteL]
  | m + 1, q + 1, h => by
    rw [byteL, List.getElem?_cons_succ, byteL_get n m q (by omega)]
    congr 5
    omega
theorem byteL_rng (n : Int) : ∀ (m : Nat), ∀ x ∈ byteL n m, 0 ≤ x ∧ x < 256
  | 0, x, h => nomatch h
  | m + 1, x, h => by
    rcases List.mem_cons.1 h with rfl | h
    · omega
    · exact byteL_rng n m x h
theorem bitL_get (N : Int) : ∀ (w i : Nat), i < w → (bitL N w)[i]? = some (N / 2 ^ (w - 1 - i) % 2)
  | 0, i, h => by omega
  | w + 1, 0, h => by simp [bitL]
  | w + 1, i + 1, h => by
    rw [bitL, List.getElem?_cons_succ, bitL_get N w i (by omega)]
    congr 4
    omega
theorem tru_01 (x : Int) : 0 ≤ tru x ∧ tru x ≤ 1 := by
  unfold tru
  split <;> omega
theorem part8 (f : Nat → Int) (q : Nat) : partB f q 8 = f (8 * q + 0) * 128 + f (8 * q + 1) * 64 + f (8 * q + 2) * 32 + f (8 * q + 3) * 16 + f (8 * q + 4) * 8 + f (8 * q + 5) * 4 + f (8 * q + 6) * 2 + f (8 * q + 7) * 1 := by
  show 0 + f (8 * q + 0) * 2 ^ 7 + f (8 * q + 1) * 2 ^ 6 + f (8 * q + 2) * 2 ^ 5 + f (8 * q + 3) * 2 ^ 4 + f (8 * q + 4) * 2 ^ 3 + f (8 * q + 5) * 2 ^ 2 + f (8 * q + 6) * 2 ^ 1 + f (8 * q + 7) * 2 ^ 0 = _
  simp only [Int.reducePow, Int.zero_add]
theorem byte_of (N : Int) : N / 128 % 2 * 128 + N / 64 % 2 * 64 + N / 32 % 2 * 32 + N / 16 % 2 * 16 + N / 8 % 2 * 8 + N / 4 % 2 * 4 + N / 2 % 2 * 2 + N / 1 % 2 * 1 = N % 256 := by omega
theorem pack_bits (n : Int) (m : Nat) (hm : m ≤ 1000) : pkP m (fun j => tru ((bitL n (8 * m))[j]?.getD 0)) (List.finRange (8 * m)) = byteL n m := by
  rw [fin_fold, pk_state (fun i => tru_01 _) m hm (8 * m) (Nat.le_refl _)]
  apply List.ext_getElem?
  intro q
  by_cases h : q < m
  · rw [byteL_get n m q h, List.getElem?_map, List.getElem?_range h]
    simp only [Option.map_some]
    rw [show min 8 (8 * m - 8 * q) = 8 by omega]
    have hb : ∀ t, t < 8 → tru ((bitL n (8 * m))[8 * q + t]?.getD 0) = n / 2 ^ (8 * (m - 1 - q)) / 2 ^ (7 - t) % 2 := fun t ht => by
      rw [bitL_get n (8 * m) _ (by omega), Option.getD_some, tru_bit, Int.ediv_ediv_of_nonneg (Int.le_of_lt (Int.pow_pos (by omega))), ← Int.pow_add]
      congr 3
      omega
    have h0 := hb 0 (by omega)
    have h1 := hb 1 (by omega)
    have h2 := hb 2 (by omega)
    have h3 := hb 3 (by omega)
    have h4 := hb 4 (by omega)
    have h5 := hb 5 (by omega)
    have h6 := hb 6 (by omega)
    have h7 := hb 7 (by omega)
    rw [part8, ← byte_of]
    congr 1
    rw [h0, h1, h2, h3, h4, h5, h6, h7]
    rfl
  · rw [List.getElem?_eq_none (by simp; omega), List.getElem?_eq_none (by rw [byteL_len]; omega)]
theorem bitL_mod (x : Int) : bitL (x % 256) 8 = bitL x 8 := by
  simp only [bitL, Int.reducePow]
  simp only [List.cons.injEq, and_true]
  omega
theorem unpack_bits (n : Int) : ∀ m, (byteL n m).flatMap (fun b => bitL b 8) = bitL n (8 * m)
  | 0 => rfl
  | m + 1 => by
    rw [byteL, List.flatMap_cons, unpack_bits n m, bitL_mod, show 8 * (m + 1) = 8 + 8 * m by omega, bitL_app]
end Go.Proofs.Ytgnkmpgnlpjglaa.P
