/- What layer 16's stamps are, and what they are expanded to, as plain integers, in the program and in its reference. Conditions: none but the ranges that each lemma names. -/
import Derived.Test.YtdlpmbjnplnjnaaPx
namespace Go.Proofs.Ytdlpmbjnplnjnaa.P
open Go.RowKit Go.Proofs.YtdlpmbjnplnjnaaW.PrintWords Go.Proofs.YtdlpmbjnplnjnaaW.PrintLast Go.Proofs.YtdlpmbjnplnjnaaW.PrintMore
set_option linter.unusedVariables false
set_option linter.unusedSimpArgs false

theorem pow_facts (w : Nat) (h0 : 1 ≤ w) (h1 : w ≤ 62) : (2 : Int) ≤ 2 ^ w ∧ (2 : Int) ^ w ≤ 4611686018427387904 ∧ (2 : Int) ^ w ∣ 18446744073709551616 := by
  refine ⟨?_, ?_, ?_⟩
  · obtain ⟨m, rfl⟩ : ∃ m, w = m + 1 := ⟨w - 1, by omega⟩
    have : (0 : Int) < 2 ^ m := Int.pow_pos (by omega)
    rw [Int.pow_succ]
    omega
  · obtain ⟨m, hm⟩ : ∃ m, 62 = w + m := ⟨62 - w, by omega⟩
    have h2 : (4611686018427387904 : Int) = 2 ^ w * 2 ^ m := by rw [← Int.pow_add, ← hm]; rfl
    have h3 : (0 : Int) < 2 ^ m := Int.pow_pos (by omega)
    have h4 : (0 : Int) < 2 ^ w := Int.pow_pos (by omega)
    rw [h2]
    have := Int.mul_le_mul_of_nonneg_left (a := 1) (b := 2 ^ m) (c := 2 ^ w) (by omega) (by omega)
    omega
  · obtain ⟨m, hm⟩ : ∃ m, 64 = w + m := ⟨64 - w, by omega⟩
    exact ⟨2 ^ m, by rw [← Int.pow_add, ← hm]; rfl⟩

theorem wraps64u (n : Int) (h₀ : 0 ≤ n) (h₁ : n < 2 ^ 64) : IntKind.u64.wrap n = n := by
  rw [IntKind.wrap_u64]
  have : (2 : Int) ^ 64 = 18446744073709551616 := rfl
  omega
theorem mask_u64 (x : Int) (w : Nat) (hw : w ≤ 64) (h0 : 0 ≤ x) (h1 : x < 18446744073709551616) : bits .and .u64 x (2 ^ w - 1) = x % 2 ^ w :=
  bits_mask .u64 64 (by decide) wraps64u w hw x h0 (by have : (2 : Int) ^ 64 = 18446744073709551616 := rfl; omega)

theorem shl_i64 (w : Nat) (h1 : w ≤ 62) : shl .i64 1 (IntKind.u64.wrap (w : Int)) = 2 ^ w := by
  unfold shl
  have h : (IntKind.u64.wrap (w : Int)).toNat = w := by rw [u64w]; omega
  rw [h, Nat.min_eq_left (by show w ≤ 64; omega), Int.one_mul, IntKind.wrap_i64]
  by_cases hz : w = 0
  · subst hz; decide
  · have := pow_facts w (by omega) h1
    omega
theorem shl_u64 (w : Nat) (h1 : w ≤ 62) : shl .u64 1 (IntKind.u64.wrap (w : Int)) = 2 ^ w := by
  unfold shl
  have h : (IntKind.u64.wrap (w : Int)).toNat = w := by rw [u64w]; omega
  rw [h, Nat.min_eq_left (by show w ≤ 64; omega), Int.one_mul, IntKind.wrap_u64]
  by_cases hz : w = 0
  · subst hz; decide
  · have := pow_facts w (by omega) h1
    omega

theorem turn_eq (w : Nat) (h0 : 1 ≤ w) (h1 : w ≤ 62) : osc_turn.f (w : Int) = some (2 ^ w, true) := by
  unfold osc_turn.f
  rw [if_neg (by omega), if_neg (by omega), if_pos (by rw [u64w]; omega), shl_i64 w h1]
theorem turn_no (w : Int) (h : w < 1 ∨ 62 < w) : osc_turn.f w = some (0, false) := by
  unfold osc_turn.f
  by_cases h1 : w < 1
  · rw [if_pos h1]
  · rw [if_neg h1, if_pos (by omega)]

theorem mod_wrap (x T : Int) (h : T ∣ 18446744073709551616) : (IntKind.u64.wrap x) % T = x % T := by
  rw [u64w, Int.emod_emod_of_dvd x h]
theorem u64_range (x : Int) : 0 ≤ IntKind.u64.wrap x ∧ IntKind.u64.wrap x < 18446744073709551616 := by rw [u64w]; omega

theorem mask_eq (w : Nat) (h0 : 1 ≤ w) (h1 : w ≤ 62) (x : Int) : bits .and .u64 (IntKind.u64.wrap x) (IntKind.u64.wrap (wrap64 ((2 : Int) ^ w - 1))) = x % 2 ^ w := by
  have hT := pow_facts w h0 h1
  rw [wr64 _ (by omega) (by omega), show IntKind.u64.wrap ((2 : Int) ^ w - 1) = 2 ^ w - 1 by rw [u64w]; omega, mask_u64 _ w (by omega) (u64_range x).1 (u64_range x).2, mod_wrap _ _ hT.2.2]

theorem Stamp_eq (c : Int) (w : Nat) (h0 : 1 ≤ w) (h1 : w ≤ 62) : osc_Stamp.f c (w : Int) = some (c % 2 ^ w) := by
  unfold osc_Stamp.f
  rw [turn_eq w h0 h1]
  simp only [Option.bind_some, if_true]
  rw [mask_eq w h0 h1]
theorem Stamp_no (c w : Int) (h : w < 1 ∨ 62 < w) : osc_Stamp.f c w = some 0 := by
  unfold osc_Stamp.f
  rw [turn_no w h]
  rfl

theorem refMod_eq (a b : Int) (a0 : -9223372036854775808 ≤ a) (a1 : a ≤ 9223372036854775807) (hb : 1 ≤ b) (hb2 : b ≤ 9223372036854775807) : bellbuoyref01_Mod.f a b = some (a % b, true) := by
  have e := Int.mul_ediv_add_emod a b
  have m0 := Int.emod_nonneg a (b := b) (by omega)
  have m1 := Int.emod_lt_of_pos a (b := b) (by omega)
  have hw : -9223372036854775808 ≤ a / b ∧ a / b ≤ 9223372036854775807 := by
    constructor
    · refine (Int.le_ediv_iff_mul_le (by omega)).2 ?_
      have := Int.mul_le_mul_of_nonneg_left (a := 1) (b := b) (c := 9223372036854775808) hb (by omega)
      rw [Int.neg_mul]
      omega
    · have h1 : a / b < 9223372036854775808 := (Int.ediv_lt_iff_lt_mul (by omega)).2 (by
        have := Int.mul_le_mul_of_nonneg_left (a := 1) (b := b) (c := 9223372036854775808) hb (by omega)
        omega)
      omega
  unfold bellbuoyref01_Mod.f bellbuoyref01_Div.f bellbuoyref01_Scale.f
  rw [if_neg (by omega), if_pos ⟨⟨a0, a1⟩, ⟨by omega, by omega⟩, ⟨by omega, hb2⟩⟩, Int.mul_one, fits, if_pos hw]
  simp only [Option.bind_some, if_true]
  have hv : wrap64 (a - wrap64 (b * (a / b))) = a % b := by
    unfold wrap64
    generalize b * (a / b) = z at *
    omega
  rw [hv]

theorem refStamp_eq (c : Int) (c0 : -9223372036854775808 ≤ c) (c1 : c ≤ 9223372036854775807) (w : Nat) (h0 : 1 ≤ w) (h1 : w ≤ 62) : bellbuoyref16_Stamp.f c (w : Int) = some (c % 2 ^ w) := by
  have hT := pow_facts w h0 h1
  have m0 := Int.emod_nonneg c (b := 2 ^ w) (by omega)
  have m1 := Int.emod_lt_of_pos c (b := 2 ^ w) (by omega)
  unfold bellbuoyref16_Stamp.f
  rw [if_neg (by omega), if_neg (by omega), if_pos (by rw [u64w]; omega), shl_i64 w h1, refMod_eq c _ c0 c1 (by omega) (by omega)]
  simp only [Option.bind_some]
  rw [u64w]
  congr 1
  omega
theorem refStamp_no (c w : Int) (h : w < 1 ∨ 62 < w) : bellbuoyref16_Stamp.f c w = some 0 := by
  unfold bellbuoyref16_Stamp.f
  by_cases h1 : w < 1
  · rw [if_pos h1]
  · rw [if_neg h1, if_pos (by omega)]

/-- How far behind now the latest count with a stamp is. -/
def bk (now s : Int) (w : Nat) : Int := (now % 2 ^ w - s) % 2 ^ w
def expandV (now s : Int) (w : Nat) : Int × Bool := if now < bk now s w then (0, false) else (now - bk now s w, true)

theorem Expand_eq (now s : Int) (w : Nat) (h0 : 1 ≤ w) (h1 : w ≤ 62) (n0 : 0 ≤ now) (n1 : now ≤ 9223372036854775807) (s0 : 0 ≤ s) (s1 : s < 2 ^ w) (k : Nat) : osc_Expand.f (k + 1) now s (w : Int) = some (expandV now s w) := by
  have hT := pow_facts w h0 h1
  have m0 := Int.emod_nonneg (now % 2 ^ w - s) (b := 2 ^ w) (by omega)
  have m1 := Int.emod_lt_of_pos (now % 2 ^ w - s) (b := 2 ^ w) (by omega)
  unfold osc_Expand.f
  rw [turn_eq w h0 h1]
  simp only [Option.bind_some, if_true]
  have hu : IntKind.u64.wrap ((2 : Int) ^ w) = 2 ^ w := by rw [u64w]; omega
  rw [hu, if_neg (by omega)]
  have hd : decide (now < 0) = false := decide_eq_false (by omega)
  rw [hd]
  simp only [osc_Expand.j0, Bool.false_eq_true, if_false]
  rw [Stamp_eq now w h0 h1]
  simp only [Option.bind_some]
  rw [mask_eq w h0 h1, show IntKind.u64.wrap now = now by rw [u64w]; omega, expandV]
  change (if bk now s w > now then _ else _) = _
  change 0 ≤ bk now s w at m0
  change bk now s w < 2 ^ w at m1
  by_cases hb : bk now s w > now
  · rw [if_pos hb, if_pos (by omega)]
  · rw [if_neg hb, if_neg (by omega)]
    change some (wrap64 (now - wrap64 (bk now s w)), true) = _
    rw [wr64 (bk now s w) (by omega) (by omega), wr64 _ (by omega) (by omega)]
theorem Expand_no (now s a2 : Int) (h : a2 < 1 ∨ 62 < a2 ∨ 2 ^ a2.toNat ≤ s ∨ now < 0) (k : Nat) : osc_Expand.f (k + 1) now s a2 = some (0, false) := by
  unfold osc_Expand.f
  by_cases hw : a2 < 1 ∨ 62 < a2
  · rw [turn_no a2 hw]
    simp [osc_Expand.j0]
  · obtain ⟨w, rfl⟩ : ∃ w : Nat, a2 = w := ⟨a2.toNat, by omega⟩
    have hT := pow_facts w (by omega) (by omega)
    rw [turn_eq w (by omega) (by omega)]
    simp only [Option.bind_some, if_true]
    have hu : IntKind.u64.wrap ((2 : Int) ^ w) = 2 ^ w := by rw [u64w]; omega
    rw [hu]
    rw [Int.toNat_natCast] at h
    by_cases hs : s ≥ 2 ^ w
    · rw [if_pos hs]; simp [osc_Expand.j0]
    · rw [if_neg hs, decide_eq_true (show now < 0 by omega)]; simp [osc_Expand.j0]

theorem refExpand_eq (now s : Int) (w : Nat) (h0 : 1 ≤ w) (h1 : w ≤ 62) (n0 : 0 ≤ now) (n1 : now ≤ 9223372036854775807) (s0 : 0 ≤ s) (s1 : s < 2 ^ w) (k : Nat) : bellbuoyref16_Expand.f (k + 1) now s (w : Int) = some (expandV now s w) := by
  have hT := pow_facts w h0 h1
  have r0 := Int.emod_nonneg now (b := 2 ^ w) (by omega)
  have r1 := Int.emod_lt_of_pos now (b := 2 ^ w) (by omega)
  unfold bellbuoyref16_Expand.f
  rw [if_neg (by omega), if_neg (by omega), if_pos (by rw [u64w]; omega), shl_u64 w h1, if_neg (by omega)]
  have hd : decide (now < 0) = false := decide_eq_false (by omega)
  rw [hd]
  simp only [bellbuoyref16_Expand.j0, Bool.false_eq_true, if_false]
  rw [refStamp_eq now (by omega) n1 w h0 h1]
  simp only [Option.bind_some]
  rw [wr64 (now % 2 ^ w) (by omega) (by omega), wr64 s (by omega) (by omega), wr64 (now % 2 ^ w - s) (by omega) (by omega), expandV, bk]
  by_cases hn : now % 2 ^ w - s < 0
  · have hm : (now % 2 ^ w - s) % 2 ^ w = now % 2 ^ w - s + 2 ^ w := by
      have h2 := Int.add_emod_right (now % 2 ^ w - s) (2 ^ w)
      rw [← h2]
      exact Int.emod_eq_of_lt (by omega) (by omega)
    rw [if_pos hn, if_pos (by rw [u64w]; omega), shl_i64 w h1, wr64 _ (by omega) (by omega), hm]
    by_cases hb : now % 2 ^ w - s + 2 ^ w > now
    · rw [if_pos hb, if_pos (by omega)]
    · rw [if_neg hb, if_neg (by omega), wr64 _ (by omega) (by omega)]
  · have hm : (now % 2 ^ w - s) % 2 ^ w = now % 2 ^ w - s := Int.emod_eq_of_lt (by omega) (by omega)
    rw [if_neg hn, hm]
    by_cases hb : now % 2 ^ w - s > now
    · rw [if_pos hb, if_pos (by omega)]
    · rw [if_neg hb, if_neg (by omega), wr64 _ (by omega) (by omega)]
theorem refExpand_no (now s a2 : Int) (h : a2 < 1 ∨ 62 < a2 ∨ 2 ^ a2.toNat ≤ s ∨ now < 0) (k : Nat) : bellbuoyref16_Expand.f (k + 1) now s a2 = some (0, false) := by
  unfold bellbuoyref16_Expand.f
  by_cases h1 : a2 < 1
  · rw [if_pos h1]; simp [bellbuoyref16_Expand.j0]
  · rw [if_neg h1]
    by_cases h2 : a2 > 62
    · rw [if_pos h2]; simp [bellbuoyref16_Expand.j0]
    · rw [if_neg h2, if_pos (by rw [u64w]; omega)]
      obtain ⟨w, rfl⟩ : ∃ w : Nat, a2 = w := ⟨a2.toNat, by omega⟩
      rw [shl_u64 w (by omega)]
      rw [Int.toNat_natCast] at h
      by_cases hs : s ≥ 2 ^ w
      · rw [if_pos hs]; simp [bellbuoyref16_Expand.j0]
      · rw [if_neg hs, decide_eq_true (show now < 0 by omega)]; simp [bellbuoyref16_Expand.j0]

/-- What is expanded has the stamp. -/
theorem bk_mod (now s : Int) (w : Nat) (h0 : 1 ≤ w) (h1 : w ≤ 62) (s0 : 0 ≤ s) (s1 : s < 2 ^ w) : (now - bk now s w) % 2 ^ w = s := by
  have hT := pow_facts w h0 h1
  have e1 := Int.mul_ediv_add_emod now (2 ^ w)
  have e2 := Int.mul_ediv_add_emod (now % 2 ^ w - s) (2 ^ w)
  unfold bk
  have h : now - (now % 2 ^ w - s) % 2 ^ w = s + 2 ^ w * (now / 2 ^ w + (now % 2 ^ w - s) / 2 ^ w) := by
    rw [Int.mul_add]
    omega
  rw [h, Int.add_mul_emod_self_left]
  exact Int.emod_eq_of_lt s0 s1
/-- And what has lain less than a turn behind is come to again. -/
theorem bk_back (now d : Int) (w : Nat) (h0 : 1 ≤ w) (h1 : w ≤ 62) (d0 : 0 ≤ d) (d1 : d < 2 ^ w) : bk now ((now - d) % 2 ^ w) w = d := by
  have hT := pow_facts w h0 h1
  have e1 := Int.mul_ediv_add_emod now (2 ^ w)
  have e2 := Int.mul_ediv_add_emod (now - d) (2 ^ w)
  unfold bk
  have h : now % 2 ^ w - (now - d) % 2 ^ w = d + 2 ^ w * ((now - d) / 2 ^ w - now / 2 ^ w) := by
    rw [Int.mul_sub]
    omega
  rw [h, Int.add_mul_emod_self_left]
  exact Int.emod_eq_of_lt d0 d1

theorem mask62 (n : Int) : bits .and .i64 n 4611686018427387903 = n % 4611686018427387904 := by
  have h127 : (BitVec.ofInt 64 4611686018427387903).toNat = 2 ^ 62 - 1 := by decide
  have key : (BitVec.ofInt 64 n &&& BitVec.ofInt 64 4611686018427387903).toNat = (n % ((2 ^ 64 : Nat) : Int)).toNat % 2 ^ 62 := by
    rw [BitVec.toNat_and, BitVec.toNat_ofInt, h127, Nat.and_two_pow_sub_one_eq_mod]
  show IntKind.i64.wrap ((BitVec.ofInt 64 n &&& BitVec.ofInt 64 4611686018427387903).toNat : Nat) = n % 4611686018427387904
  rw [key, IntKind.wrap_i64]
  omega
theorem wfi {n : Int} (h : (Lit.int .i64 n).wf = true) : -9223372036854775808 ≤ n ∧ n ≤ 9223372036854775807 := by
  simp only [Lit.wf, Bool.and_eq_true, decide_eq_true_eq] at h; exact h
theorem wfu {n : Int} (h : (Lit.int .u64 n).wf = true) : 0 ≤ n ∧ n ≤ 18446744073709551615 := by
  simp only [Lit.wf, Bool.and_eq_true, decide_eq_true_eq] at h; exact h
theorem wf8 {n : Int} (h : (Lit.int .u8 n).wf = true) : 0 ≤ n ∧ n ≤ 255 := by
  simp only [Lit.wf, Bool.and_eq_true, decide_eq_true_eq] at h; exact h
end Go.Proofs.Ytdlpmbjnplnjnaa.P
