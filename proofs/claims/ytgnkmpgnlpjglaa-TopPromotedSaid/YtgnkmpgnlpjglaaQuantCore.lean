/- What layer 22's functions compute, as plain integers: slots, their beginnings, epochs. Conditions: none but the ranges that each lemma names. -/
import Derived.Test.YtgnkmpgnlpjglaaPx2
namespace Go.Proofs.Ytgnkmpgnlpjglaa.P
open Go.RowKit Go.Proofs.YtgnkmpgnlpjglaaW.PrintWords Go.Proofs.YtgnkmpgnlpjglaaW.PrintLast Go.Proofs.YtgnkmpgnlpjglaaW.PrintMore
set_option linter.unusedVariables false
set_option linter.unusedSimpArgs false

theorem quo_bounds (a b : Int) (hb : 1 ≤ b) : (0 ≤ a → 0 ≤ a / b ∧ a / b ≤ a) ∧ (a < 0 → a ≤ a / b ∧ a / b < 0) := by
  refine ⟨fun h => ⟨Int.ediv_nonneg h (by omega), Int.ediv_le_self _ h⟩, fun h => ⟨(Int.le_ediv_iff_mul_le (by omega)).2 ?_, (Int.ediv_lt_iff_lt_mul (by omega)).2 (by omega)⟩⟩
  have := Int.mul_le_mul_of_nonneg_left (a := 1) (b := b) (c := -a) hb (by omega)
  rw [Int.neg_mul, Int.neg_mul] at this
  omega

theorem tdivmod (a b : Int) (hb : 1 ≤ b) : (Int.tmod a b < 0 → Int.tdiv a b = a / b + 1 ∧ Int.tmod a b + b = a % b) ∧ (¬ Int.tmod a b < 0 → Int.tdiv a b = a / b ∧ Int.tmod a b = a % b) := by
  have e := Int.mul_tdiv_add_tmod a b
  have h1 := Int.lt_tmod_of_pos a (b := b) (by omega)
  have h2 := Int.tmod_lt_of_pos a (b := b) (by omega)
  have u : ∀ q r, _ := fun q r => (Int.ediv_emod_unique (a := a) (r := r) (q := q) (b := b) (by omega)).2
  constructor
  · intro h
    have := u (Int.tdiv a b - 1) (Int.tmod a b + b) ⟨by rw [Int.mul_sub, Int.mul_one]; omega, by omega, by omega⟩
    omega
  · intro h
    have := u (Int.tdiv a b) (Int.tmod a b) ⟨by omega, by omega, by omega⟩
    omega

theorem Div_eq (a b : Int) (a0 : -9223372036854775808 ≤ a) (a1 : a ≤ 9223372036854775807) (hb : 1 ≤ b) : exact_Div.f a b = some (a / b, true) := by
  have h := tdivmod a b hb
  have q := quo_bounds a b hb
  have e := Int.mul_tdiv_add_tmod a b
  unfold exact_Div.f
  rw [if_neg (by omega), if_neg (by omega)]
  by_cases hm : Int.tmod a b < 0
  · have h' := (h.1 hm).1
    have hneg : a < 0 := by
      apply Classical.byContradiction
      intro hp
      have := Int.tmod_nonneg (a := a) b (by omega)
      omega
    have q' := q.2 hneg
    rw [if_pos hm, i64w (Int.tdiv a b) (by omega) (by omega), i64w _ (by omega) (by omega), h']
    congr 2
    omega
  · have h' := (h.2 hm).1
    have hw : -9223372036854775808 ≤ a / b ∧ a / b ≤ 9223372036854775807 := by
      by_cases hneg : a < 0
      · have := q.2 hneg; omega
      · have := q.1 (by omega); omega
    rw [if_neg hm, h', i64w _ hw.1 hw.2]

theorem Mod_eq (a b : Int) (hb : 1 ≤ b) (hb2 : b ≤ 9223372036854775807) : exact_Mod.f a b = some (a % b, true) := by
  have h := tdivmod a b hb
  have m0 := Int.emod_nonneg a (b := b) (by omega)
  have m1 := Int.emod_lt_of_pos a (b := b) (by omega)
  unfold exact_Mod.f
  rw [if_neg (by omega), if_neg (by omega)]
  by_cases hm : Int.tmod a b < 0
  · rw [if_pos hm, (h.1 hm).2, i64w _ (by omega) (by omega)]
  · rw [if_neg hm, (h.2 hm).2]

def Tm (t : Int) : Prop := -1152921504606846976 ≤ t ∧ t ≤ 1152921504606846976
def Ln (n : Int) : Prop := 1 ≤ n ∧ n ≤ 1099511627776
instance (t : Int) : Decidable (Tm t) := by unfold Tm; infer_instance
instance (t : Int) : Decidable (Ln t) := by unfold Ln; infer_instance

theorem clampB (a lo hi : Int) (h : lo ≤ hi) : (a == clampV a lo hi) = decide (lo ≤ a ∧ a ≤ hi) := by
  rw [Bool.eq_iff_iff, beq_iff_eq, decide_eq_true_eq]
  unfold clampV
  split
  · omega
  · split <;> omega

theorem fine1 (n t : Int) : quant_fine.f n [t] = some (decide (Ln n ∧ Tm t)) := by
  unfold quant_fine.f
  simp only [List.all_cons, List.all_nil, Bool.and_true, quant_okT]
  rw [clampB _ _ _ (by omega), clampB _ _ _ (by omega)]
  congr 1
  rw [Bool.eq_iff_iff]
  simp only [Bool.and_eq_true, decide_eq_true_eq]
  exact Iff.rfl
theorem fine2 (n t s : Int) : quant_fine.f n [t, s] = some (decide (Ln n ∧ Tm t ∧ Tm s)) := by
  unfold quant_fine.f
  simp only [List.all_cons, List.all_nil, Bool.and_true, quant_okT]
  rw [clampB _ _ _ (by omega), clampB _ _ _ (by omega), clampB _ _ _ (by omega)]
  congr 1
  rw [Bool.eq_iff_iff]
  simp only [Bool.and_eq_true, decide_eq_true_eq]
  exact Iff.rfl
def slotV (q : Int) : Int := if q < 0 then 0 else if 255 < q then 255 else q

theorem slots_eq (d e n : Int) (hd : Tm d) (he : Tm e) (hn : Ln n) : quant_slots.f d e n = some ((d - e) / n) := by
  unfold Tm at hd he
  unfold Ln at hn
  unfold quant_slots.f
  rw [i64w _ (by omega) (by omega), Div_eq _ _ (by omega) (by omega) (by omega)]
  rfl

theorem Slot_eq (d e n : Int) (hd : Tm d) (he : Tm e) (hn : Ln n) : quant_Slot.f d e n = some (slotV ((d - e) / n), true) := by
  unfold quant_Slot.f
  rw [fine2]
  simp only [Option.bind_some]
  rw [if_pos (by simp [hd, he, hn]), slots_eq d e n hd he hn]
  simp only [Option.bind_some, exact_Clamp.f, slotV, mn]
  split
  · rfl
  · split <;> rfl
theorem Slot_no (d e n : Int) (h : ¬ (Ln n ∧ Tm d ∧ Tm e)) : quant_Slot.f d e n = some (0, false) := by
  unfold quant_Slot.f
  rw [fine2]
  simp only [Option.bind_some]
  rw [if_neg (by simpa using h)]

theorem Epoch_eq (t n : Int) (ht : Tm t) (hn : Ln n) : quant_Epoch.f t n = some (t - t % n, true) := by
  have ht' := ht; have hn' := hn
  unfold Tm at ht'
  unfold Ln at hn'
  have m0 := Int.emod_nonneg t (b := n) (by omega)
  have m1 := Int.emod_lt_of_pos t (b := n) (by omega)
  unfold quant_Epoch.f
  rw [fine1]
  simp only [Option.bind_some]
  rw [if_pos (by simp [ht, hn]), Mod_eq t n hn'.1 (by omega)]
  simp only [Option.bind_some]
  rw [i64w _ (by omega) (by omega)]
theorem Epoch_no (t n : Int) (h : ¬ (Ln n ∧ Tm t)) : quant_Epoch.f t n = some (0, false) := by
  unfold quant_Epoch.f
  rw [fine1]
  simp only [Option.bind_some]
  rw [if_neg (by simpa using h)]

theorem Far_eq (d e n : Int) (hd : Tm d) (he : Tm e) (hn : Ln n) : quant_Far.f d e n = some (decide ((d - e) / n > 255)) := by
  unfold quant_Far.f
  rw [fine2]
  simp only [Option.bind_some]
  rw [if_pos (by simp [hd, he, hn]), slots_eq d e n hd he hn]
  rfl
theorem mask40 (n : Int) : bits .and .i64 n 1099511627775 = n % 1099511627776 := by
  have h127 : (BitVec.ofInt 64 1099511627775).toNat = 2 ^ 40 - 1 := by decide
  have key : (BitVec.ofInt 64 n &&& BitVec.ofInt 64 1099511627775).toNat = (n % ((2 ^ 64 : Nat) : Int)).toNat % 2 ^ 40 := by
    rw [BitVec.toNat_and, BitVec.toNat_ofInt, h127, Nat.and_two_pow_sub_one_eq_mod]
  show IntKind.i64.wrap ((BitVec.ofInt 64 n &&& BitVec.ofInt 64 1099511627775).toNat : Nat) = n % 1099511627776
  rw [key, IntKind.wrap_i64]
  omega
end Go.Proofs.Ytgnkmpgnlpjglaa.P
