/- What a signal's numbers are: its range, what fits, what a number is worth, and what is worth something; as plain integers. Conditions: the ranges that each lemma names. -/
import Derived.Test.YtepeihlhokpjjaaSigGet
namespace Go.Proofs.Ytepeihlhokpjjaa.P
open Go.RowKit Go.Proofs.YtepeihlhokpjjaaW.PrintWords Go.Proofs.YtepeihlhokpjjaaW.PrintLast Go.Proofs.YtepeihlhokpjjaaW.PrintMore
set_option linter.unusedVariables false
set_option linter.unusedSimpArgs false
theorem Add_eq (a b : Int) (a0 : -9223372036854775808 ≤ a) (a1 : a ≤ 9223372036854775807) (b0 : -9223372036854775808 ≤ b) (b1 : b ≤ 9223372036854775807) : exact_Add.f a b = some (fit64 (a + b)) := by
  have hw := wrap64_range (a + b)
  have h1 := xor_neg a (wrap64 (a + b)) a0 a1 hw.1 hw.2
  have h2 := xor_neg b (wrap64 (a + b)) b0 b1 hw.1 hw.2
  have r1 := xor_range a (wrap64 (a + b))
  have r2 := xor_range b (wrap64 (a + b))
  have h3 := and_neg _ _ r1.1 r1.2 r2.1 r2.2
  unfold exact_Add.f
  by_cases hf : -9223372036854775808 ≤ a + b ∧ a + b ≤ 9223372036854775807
  · rw [if_neg (by rw [h3, h1, h2, wr64 _ hf.1 hf.2]; omega), fit64, if_pos hf, wr64 _ hf.1 hf.2]
  · rw [if_pos (by
      rw [h3, h1, h2]
      have hv : wrap64 (a + b) = a + b - 18446744073709551616 ∧ 0 < a + b ∨ wrap64 (a + b) = a + b + 18446744073709551616 ∧ a + b < 0 := by unfold wrap64; omega
      omega), fit64, if_neg hf]


theorem Sub_eq (a b : Int) (a0 : -9223372036854775808 ≤ a) (a1 : a ≤ 9223372036854775807) (b0 : -9223372036854775808 ≤ b) (b1 : b ≤ 9223372036854775807) : exact_Sub.f a b = some (fit64 (a - b)) := by
  have hw := wrap64_range (a - b)
  have h1 := xor_neg a b a0 a1 b0 b1
  have h2 := xor_neg a (wrap64 (a - b)) a0 a1 hw.1 hw.2
  have r1 := xor_range a b
  have r2 := xor_range a (wrap64 (a - b))
  have h3 := and_neg _ _ r1.1 r1.2 r2.1 r2.2
  unfold exact_Sub.f
  by_cases hf : -9223372036854775808 ≤ a - b ∧ a - b ≤ 9223372036854775807
  · rw [if_neg (by rw [h3, h1, h2, wr64 _ hf.1 hf.2]; omega), fit64, if_pos hf, wr64 _ hf.1 hf.2]
  · rw [if_pos (by
      rw [h3, h1, h2]
      have hv : wrap64 (a - b) = a - b - 18446744073709551616 ∧ 0 < a - b ∨ wrap64 (a - b) = a - b + 18446744073709551616 ∧ a - b < 0 := by unfold wrap64; omega
      omega), fit64, if_neg hf]


theorem range_tab : ∀ n : Fin 64, shl .i64 (-1) (IntKind.u64.wrap (wrap64 ((n.1 : Int) + 1 - 1))) = -2 ^ n.1 ∧ Go.bits .xor .i64 (-1) (-2 ^ n.1) = 2 ^ n.1 - 1 ∧ (n.1 ≤ 62 → wrap64 ((shl .i64 1 (IntKind.u64.wrap ((n.1 : Int) + 1))) - 1) = 2 ^ (n.1 + 1) - 1) := by decide +kernel
theorem good_ln {s : Sg} (h : badS s = false) : 1 ≤ s.ln ∧ s.ln ≤ 64 ∧ (s.sgn = false → s.ln ≤ 63) ∧ s.sc ≠ 0 ∧ ((walkL s).length : Int) = s.ln := by
  unfold badS at h
  simp only [Bool.or_eq_false_iff, decide_eq_false_iff_not, beq_eq_false_iff_ne, bne_eq_false_iff_eq] at h
  obtain ⟨⟨⟨h1, h2⟩, h3⟩, h4⟩ := h
  refine ⟨by omega, ?_, ?_, h3, h4⟩
  · split at h2 <;> omega
  · intro hs
    rw [hs, if_neg (by simp)] at h2
    omega
/-- The least and the greatest number that can stand there. -/
def rangeV (s : Sg) : Int × Int := if badS s = true then (0, 0) else if s.sgn = true then (-2 ^ (s.ln - 1).toNat, 2 ^ (s.ln - 1).toNat - 1) else (0, 2 ^ s.ln.toNat - 1)
theorem Range_eq (s : Sg) : signal_Range.f s.st s.ln s.big s.sgn s.sc s.off = some (rangeV s) := by
  unfold signal_Range.f signal_Right.f rangeV
  simp only [Option.bind_some]
  cases hb : badS s
  · have g := good_ln hb
    simp only [Bool.not_false, if_true, Bool.false_eq_true, if_false]
    obtain ⟨n, hn⟩ : ∃ n : Fin 64, s.ln = (n.1 : Int) + 1 := ⟨⟨(s.ln - 1).toNat, by omega⟩, by show s.ln = (((s.ln - 1).toNat : Nat) : Int) + 1; omega⟩
    obtain ⟨t1, t2, t3⟩ := range_tab n
    have w0 : ∀ x : Int, 0 ≤ IntKind.u64.wrap x := fun x => by rw [mod64]; omega
    cases hs : s.sgn
    · simp only [Bool.false_eq_true, if_false]
      rw [if_pos (w0 _), hn, t3 (by have := g.2.2.1 hs; omega)]
      rw [show ((n.1 : Int) + 1).toNat = n.1 + 1 by omega]
    · simp only [if_true]
      rw [if_pos (w0 _), hn, t1, t2]
      rw [show ((n.1 : Int) + 1 - 1).toNat = n.1 by omega]
  · rfl
theorem rangeV_64 (s : Sg) : In64 (rangeV s).1 ∧ In64 (rangeV s).2 := by
  unfold rangeV
  cases hb : badS s
  · have g := good_ln hb
    obtain ⟨n, hn⟩ : ∃ n : Fin 64, s.ln = (n.1 : Int) + 1 := ⟨⟨(s.ln - 1).toNat, by omega⟩, by show s.ln = (((s.ln - 1).toNat : Nat) : Int) + 1; omega⟩
    have key : ∀ n : Fin 64, In64 (-2 ^ n.1) ∧ In64 (2 ^ n.1 - 1) ∧ (n.1 ≤ 62 → In64 (2 ^ (n.1 + 1) - 1)) := by decide +kernel
    obtain ⟨t1, t2, t3⟩ := key n
    cases hs : s.sgn
    · simp only [Bool.false_eq_true, if_false]
      rw [hn, show ((n.1 : Int) + 1).toNat = n.1 + 1 by omega]
      exact ⟨by decide, t3 (by have := g.2.2.1 hs; omega)⟩
    · simp only [Bool.false_eq_true, if_false, if_true]
      rw [hn, show ((n.1 : Int) + 1 - 1).toNat = n.1 by omega]
      exact ⟨t1, t2⟩
  · simp only [if_true]
    exact ⟨by decide, by decide⟩
/-- Whether a number can stand there. -/
def fitsV (s : Sg) (raw : Int) : Bool := !badS s && decide ((rangeV s).1 ≤ raw ∧ raw ≤ (rangeV s).2)
theorem fits_eq (s : Sg) (raw : Int) : signal_fits.f s.st s.ln s.big s.sgn s.sc s.off raw = some (fitsV s raw) := by
  unfold signal_fits.f
  rw [Range_eq]
  unfold signal_Right.f fitsV
  simp only [Option.bind_some]
  cases hb : badS s
  · simp only [Bool.not_false, if_true, Bool.true_and]
    unfold exact_Clamp.f
    by_cases h1 : raw < (rangeV s).1
    · rw [if_pos h1]
      simp only [Option.bind_some]
      congr 1
      rw [decide_eq_false (by omega)]
      simp only [beq_eq_false_iff_ne, ne_eq]
      omega
    · rw [if_neg h1]
      simp only [Option.bind_some]
      congr 1
      unfold mn
      by_cases h2 : (rangeV s).2 < raw
      · rw [decide_eq_false (by omega)]
        simp only [beq_eq_false_iff_ne, ne_eq]
        split <;> omega
      · rw [decide_eq_true (by omega)]
        simp only [beq_iff_eq]
        split <;> omega
  · rfl
/-- What a number is worth. -/
def worthV (s : Sg) (raw : Int) : Int × Bool := if (fit64 (raw * s.sc)).2 = true then (if fitsV s raw = true then fit64 (raw * s.sc + s.off) else (0, false)) else (0, false)
theorem fit_true {x : Int} (h : (fit64 x).2 = true) : fit64 x = (x, true) ∧ In64 x := by
  unfold fit64 at h ⊢
  split at h
  · next q => exact ⟨if_pos q, q⟩
  · cases h
theorem Worth_eq (s : Sg) {raw : Int} (h1 : In64 raw) (h2 : In64 s.sc) (h3 : In64 s.off) : signal_Worth.f s.st s.ln s.big s.sgn s.sc s.off raw = some (worthV s raw) := by
  unfold signal_Worth.f exact_Mul.f worthV
  rw [if_pos ⟨h1, h2⟩, fits_eq]
  simp only [Option.bind_some]
  rw [show fits (raw * s.sc) = fit64 (raw * s.sc) from rfl]
  by_cases h : (fit64 (raw * s.sc)).2 = true
  · obtain ⟨e, hi⟩ := fit_true h
    rw [if_pos h, if_pos h, e]
    by_cases hf : fitsV s raw = true
    · rw [if_pos hf, if_pos hf, Add_eq _ _ hi.def.1 hi.def.2 h3.def.1 h3.def.2]
      rfl
    · rw [if_neg hf, if_neg hf]
  · rw [if_neg h, if_neg h]
theorem worthV_64 (s : Sg) (raw : Int) : In64 (worthV s raw).1 := by
  unfold worthV
  split
  · split
    · unfold fit64
      split
      · next q => exact q
      · decide
    · decide
  · decide
def quotV (n b : Int) : Int × Bool := if b = 0 then (0, false) else if b = -1 then fit64 (0 - n) else (wrap64 (Int.tdiv n b), true)
theorem fit64_64 (x : Int) : In64 (fit64 x).1 := by
  unfold fit64
  split
  · next q => exact q
  · decide
theorem quotV_64 (n b : Int) : In64 (quotV n b).1 := by
  unfold quotV
  split
  · decide
  · split
    · exact fit64_64 _
    · exact wrap64_range _
theorem quot_eq {n b : Int} (h : In64 n) : signal_quotient.f n b = some (quotV n b) := by
  unfold signal_quotient.f quotV
  by_cases h0 : b = 0
  · rw [if_pos h0, if_pos h0]
  · rw [if_neg h0, if_neg h0]
    by_cases h1 : b = -1
    · rw [if_pos h1, if_pos h1, Sub_eq _ _ (by decide) (by decide) h.def.1 h.def.2]
      rfl
    · rw [if_neg h1, if_neg h1]
/-- The number that is worth something. -/
def rawV (s : Sg) (x : Int) : Int × Bool :=
  if (fit64 (x - s.off)).2 = true then
    (if (quotV (x - s.off) s.sc).2 = true then
      (if (worthV s (quotV (x - s.off) s.sc).1).2 = true then (if (worthV s (quotV (x - s.off) s.sc).1).1 = x then ((quotV (x - s.off) s.sc).1, true) else (0, false)) else (0, false))
    else (0, false))
  else (0, false)
theorem Raw_eq (s : Sg) {x : Int} (h1 : In64 x) (h2 : In64 s.sc) (h3 : In64 s.off) : signal_Raw.f s.st s.ln s.big s.sgn s.sc s.off x = some (rawV s x) := by
  unfold signal_Raw.f rawV
  rw [Sub_eq _ _ h1.def.1 h1.def.2 h3.def.1 h3.def.2]
  simp only [Option.bind_some]
  by_cases h : (fit64 (x - s.off)).2 = true
  · obtain ⟨e, hi⟩ := fit_true h
    rw [if_pos h, if_pos h, e, quot_eq hi]
    simp only [Option.bind_some]
    by_cases hq : (quotV (x - s.off) s.sc).2 = true
    · rw [if_pos hq, if_pos hq, Worth_eq s (quotV_64 _ _) h2 h3]
      simp only [Option.bind_some]
      split <;> (try split) <;> rfl
    · rw [if_neg hq, if_neg hq]
  · rw [if_neg h, if_neg h]
theorem rawV_64 (s : Sg) (x : Int) : In64 (rawV s x).1 := by
  unfold rawV
  (repeat' split) <;> first | exact quotV_64 _ _ | decide
/-- What a number is worth tells it again. -/
theorem worth_raw {s : Sg} {raw x : Int} (h1 : In64 raw) (h : worthV s raw = (x, true)) : rawV s x = (raw, true) := by
  have hw := h
  unfold worthV at h
  split at h
  · next hp =>
    split at h
    · next hf =>
      have hx : (fit64 (raw * s.sc + s.off)).2 = true := by rw [h]
      obtain ⟨e, hi⟩ := fit_true hx
      rw [e] at h
      injection h with h _
      obtain ⟨e2, hi2⟩ := fit_true hp
      have hsc : s.sc ≠ 0 := by
        have : badS s = false := by
          unfold fitsV at hf
          simp only [Bool.and_eq_true, Bool.not_eq_true'] at hf
          exact hf.1
        exact (good_ln this).2.2.2.1
      have hn : x - s.off = raw * s.sc := by omega
      have hq : quotV (x - s.off) s.sc = (raw, true) := by
        unfold quotV
        rw [if_neg hsc, hn]
        by_cases hm : s.sc = -1
        · rw [if_pos hm, hm]
          unfold fit64
          rw [if_pos (by have := h1.def; omega), show 0 - raw * -1 = raw by omega]
        · rw [if_neg hm, Int.mul_tdiv_cancel _ hsc, wr64 _ h1.def.1 h1.def.2]
      unfold rawV
      rw [if_pos (by rw [hn]; exact hp), hq]
      simp only [if_true]
      rw [hw]
      simp only [if_true]
    · cases h
  · cases h
/-- What has a raw number has it in range. -/
theorem raw_worth {s : Sg} {x r : Int} (h : rawV s x = (r, true)) : (rangeV s).1 ≤ r ∧ r ≤ (rangeV s).2 ∧ worthV s r = (x, true) := by
  unfold rawV at h
  split at h
  · split at h
    · split at h
      · next hw =>
        split at h
        · next hx =>
          injection h with h _
          subst h
          have e : worthV s (quotV (x - s.off) s.sc).1 = (x, true) := Prod.ext hx hw
          have hf : fitsV s (quotV (x - s.off) s.sc).1 = true := by
            unfold worthV at hw
            split at hw
            · split at hw
              · assumption
              · cases hw
            · cases hw
          unfold fitsV at hf
          simp only [Bool.and_eq_true, decide_eq_true_eq] at hf
          exact ⟨hf.2.1, hf.2.2, e⟩
        · cases h
      · cases h
    · cases h
  · cases h
theorem raw_none {s : Sg} {x r : Int} (h : rawV s x = (r, false)) : r = 0 := by
  unfold rawV at h
  (repeat' split at h) <;> first | (injection h with h1 h2; first | exact h1.symm | cases h2)
theorem Range_walk (s : Sg) (w : World) : Calls Try.prog 10 #[s.g] w fun e w' => e = .returned (.tuple #[.int .i64 (rangeV s).1, .int .i64 (rangeV s).2]) ∧ Below w.heap.size w w' := signal_Range.calls _ _ _ _ _ _ (rangeV s).1 (rangeV s).2 w (Range_eq s)
theorem Worth_walk (s : Sg) {raw : Int} (h1 : In64 raw) (h2 : In64 s.sc) (h3 : In64 s.off) (w : World) : Calls Try.prog 12 #[s.g, .int .i64 raw] w fun e w' => e = .returned (.tuple #[.int .i64 (worthV s raw).1, .bool (worthV s raw).2]) ∧ Below w.heap.size w w' := signal_Worth.calls _ _ _ _ _ _ _ (worthV s raw).1 (worthV s raw).2 w (Worth_eq s h1 h2 h3)
theorem Raw_walk (s : Sg) {x : Int} (h1 : In64 x) (h2 : In64 s.sc) (h3 : In64 s.off) (w : World) : Calls Try.prog 14 #[s.g, .int .i64 x] w fun e w' => e = .returned (.tuple #[.int .i64 (rawV s x).1, .bool (rawV s x).2]) ∧ Below w.heap.size w w' := signal_Raw.calls _ _ _ _ _ _ _ (rawV s x).1 (rawV s x).2 w (Raw_eq s h1 h2 h3)
end Go.Proofs.Ytepeihlhokpjjaa.P
