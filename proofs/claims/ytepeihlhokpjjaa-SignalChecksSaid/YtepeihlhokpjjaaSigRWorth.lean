/- The document's range, worths, raw numbers: they are the program's. Conditions: the ranges that each lemma names. -/
import Derived.Test.YtepeihlhokpjjaaSigRMeet
namespace Go.Proofs.Ytepeihlhokpjjaa.P
open Go.RowKit Go.Proofs.YtepeihlhokpjjaaW.PrintWords Go.Proofs.YtepeihlhokpjjaaW.PrintLast Go.Proofs.YtepeihlhokpjjaaW.PrintMore
set_option linter.unusedVariables false
set_option linter.unusedSimpArgs false
theorem double_eq (hi lo bit : Int) (h0 : 0 ≤ hi) (h1 : hi < 9223372036854775808) (l0 : 0 ≤ lo) (l1 : lo < 18446744073709551616) (b0 : 0 ≤ bit) (b1 : bit ≤ 1) :
    bellbuoyref01_double.f hi lo bit = some (2 * hi + lo / 9223372036854775808, (2 * lo) % 18446744073709551616 + bit) := by
  unfold bellbuoyref01_double.f
  rw [u64w, u64w, or_even _ _ (by omega) (by omega) (by omega) (by omega) (by omega), or_even _ _ (by omega) (by omega) (by omega) (by omega) (by omega)]
  simp only [Option.some.injEq, Prod.mk.injEq, and_true, true_and]
  omega
theorem plus_eq (ah al bh bl : Int) (h0 : 0 ≤ ah) (h1 : 0 ≤ al) (h2 : al < 18446744073709551616) (h3 : 0 ≤ bh) (h4 : 0 ≤ bl) (h5 : bl < 18446744073709551616) (h6 : ah + bh + 1 < 18446744073709551616 ∨ ah + bh < 18446744073709551616 ∧ al + bl < 18446744073709551616) :
    bellbuoyref01_plus.f ah al bh bl = some (ah + bh + (al + bl) / 18446744073709551616, (al + bl) % 18446744073709551616) := by
  unfold bellbuoyref01_plus.f
  simp only [u64w]
  by_cases hc : al + bl < 18446744073709551616
  · have e1 : (al + bl) / 18446744073709551616 = 0 := by omega
    have e2 : (al + bl) % 18446744073709551616 = al + bl := by omega
    rw [e1, e2, if_neg (by omega)]
    simp only [Option.some.injEq, Prod.mk.injEq, and_true, true_and]
    omega
  · have e1 : (al + bl) / 18446744073709551616 = 1 := by omega
    have e2 : (al + bl) % 18446744073709551616 = al + bl - 18446744073709551616 := by omega
    rw [e1, e2, if_pos (by omega)]
    simp only [Option.some.injEq, Prod.mk.injEq, and_true, true_and]
    omega

theorem times_l0 (a b : Int) (a0 : 0 ≤ a) (a1 : a < 18446744073709551616) (b0 : 0 ≤ b) (b1 : b < 18446744073709551616) :
    ∀ (n k : Nat) (hi lo : Int), n ≤ 64 → n < k → 0 ≤ hi → 0 ≤ lo → lo < 18446744073709551616 → hi * 18446744073709551616 + lo = a * (b / 2 ^ n) →
      bellbuoyref01_times.l0 k a b ((n : Int) - 1) hi lo = some ((a * b) / 18446744073709551616, (a * b) % 18446744073709551616) := by
  intro n
  induction n with
  | zero =>
    intro k hi lo hn hk h0 l0 l1 hv
    obtain ⟨k, rfl⟩ : ∃ m, k = m + 1 := ⟨k - 1, by omega⟩
    simp only [bellbuoyref01_times.l0]
    rw [if_neg (by omega)]
    rw [Int.pow_zero, Int.ediv_one] at hv
    simp only [Option.some.injEq, Prod.mk.injEq, and_true, true_and]
    omega
  | succ n ih =>
    intro k hi lo hn hk h0 l0 l1 hv
    obtain ⟨k, rfl⟩ : ∃ m, k = m + 1 := ⟨k - 1, by omega⟩
    have hq0 : 0 ≤ b / 2 ^ n := Int.ediv_nonneg b0 (Int.le_of_lt (Int.pow_pos (by omega)))
    have hq1 : b / 2 ^ n ≤ b := Int.ediv_le_self _ b0
    have hh := pow_half b n
    rw [hh] at hv
    generalize hq : b / 2 ^ n = q at *
    have hab : a * q ≤ a * b := Int.mul_le_mul_of_nonneg_left hq1 a0
    have hab2 : a * b < 18446744073709551616 * 18446744073709551616 := by
      have h1 : a * b ≤ a * 18446744073709551615 := Int.mul_le_mul_of_nonneg_left (by omega) a0
      omega
    have hqq : q = 2 * (q / 2) + q % 2 := by omega
    have hbit : q % 2 = 0 ∨ q % 2 = 1 := by omega
    have hmul : a * q = 2 * (a * (q / 2)) + a * (q % 2) := by
      have : a * q = a * (2 * (q / 2) + q % 2) := by rw [← hqq]
      rw [this, Int.mul_add]
      have h2 : a * (2 * (q / 2)) = 2 * (a * (q / 2)) := by rw [← Int.mul_assoc, ← Int.mul_assoc, Int.mul_comm a 2]
      rw [h2]
    have hpos : 0 ≤ a * (q / 2) := Int.mul_nonneg a0 (by omega)
    generalize a * (q / 2) = p at *
    simp only [bellbuoyref01_times.l0]
    rw [show ((n + 1 : Nat) : Int) - 1 = (n : Int) by omega, if_pos (by omega)]
    have hlt : p < 9223372036854775808 * 18446744073709551616 := by
      rcases hbit with h | h
      · rw [h, Int.mul_zero] at hmul; omega
      · rw [h, Int.mul_one] at hmul; omega
    rw [double_eq hi lo 0 h0 (by omega) l0 l1 (by omega) (by omega)]
    simp only [Option.bind_some]
    rw [if_pos (by rw [u64w]; omega), shr_u64 _ _ (by omega), hq, and_one _ hq0 (by omega), i64w _ (by omega) (by omega)]
    rcases hbit with h | h
    · rw [h, Int.mul_zero] at hmul
      rw [if_neg (by omega)]
      exact ih k _ _ (by omega) (by omega) (by omega) (by omega) (by omega) (by omega)
    · rw [h, Int.mul_one] at hmul
      rw [if_pos h, plus_eq _ _ _ _ (by omega) (by omega) (by omega) (by omega) a0 a1 (by omega)]
      simp only [Option.bind_some]
      exact ih k _ _ (by omega) (by omega) (by omega) (by omega) (by omega) (by omega)
/-- 'times' is the product, in two halves. -/
theorem times_eq (a b : Int) (a0 : 0 ≤ a) (a1 : a < 18446744073709551616) (b0 : 0 ≤ b) (b1 : b < 18446744073709551616) (k : Nat) (hk : 65 ≤ k) :
    bellbuoyref01_times.f k a b = some ((a * b) / 18446744073709551616, (a * b) % 18446744073709551616) := by
  unfold bellbuoyref01_times.f
  refine times_l0 a b a0 a1 b0 b1 64 k 0 0 (by omega) (by omega) (by omega) (by omega) (by omega) ?_
  rw [Int.ediv_eq_zero_of_lt b0 (by simpa using b1)]
  simp

theorem size_eq (a : Int) (h0 : -9223372036854775808 ≤ a) (h1 : a ≤ 9223372036854775807) : bellbuoyref01_size.f a = some (if a < 0 then -a else a) := by
  unfold bellbuoyref01_size.f
  simp only [u64w]
  split
  · simp only [Option.some.injEq]; omega
  · simp only [Option.some.injEq]; omega

theorem signed_eq (hi lo : Int) (below : Bool) (h0 : 0 ≤ hi) (l0 : 0 ≤ lo) (l1 : lo < 18446744073709551616) (k : Nat) (hk : 1 ≤ k) :
    bellbuoyref01_signed.f k hi lo below = some (sgn (hi * 18446744073709551616 + lo) below) := by
  obtain ⟨k, rfl⟩ : ∃ m, k = m + 1 := ⟨k - 1, by omega⟩
  unfold bellbuoyref01_signed.f
  simp only [bellbuoyref01_signed.j0, sgn, fits, u64w]
  cases below
  · simp only [Bool.false_eq_true, if_false, Bool.not_false, if_true]
    split
    · split
      · rw [if_neg (by omega)]
      · split
        · rw [if_neg (by omega)]
        · rw [if_pos (by omega), i64w _ (by omega) (by omega)]
          simp only [Option.some.injEq, Prod.mk.injEq, and_true]; omega
    · rw [if_neg (by omega)]
  · simp only [if_true, Bool.not_true, Bool.false_eq_true, if_false]
    split
    · split
      · rw [if_neg (by omega)]
      · have hw : wrap64 (-lo % 18446744073709551616) = -(hi * 18446744073709551616 + lo) := by unfold wrap64; omega
        split
        · rw [if_pos (by omega), hw]
        · rw [if_pos (by omega), hw]
    · rw [if_neg (by omega)]

theorem refAdd_eq (a b : Int) (a0 : -9223372036854775808 ≤ a) (a1 : a ≤ 9223372036854775807) (b0 : -9223372036854775808 ≤ b) (b1 : b ≤ 9223372036854775807) : bellbuoyref01_Add.f a b = some (fit64 (a + b)) := by
  unfold bellbuoyref01_Add.f
  by_cases h1 : b > 0
  · rw [if_pos h1, wr64 (9223372036854775807 - b) (by omega) (by omega)]
    by_cases h2 : a > 9223372036854775807 - b
    · rw [if_pos h2, fit64_out (by omega)]
    · rw [if_neg h2, if_neg (by omega), fit64_in (by omega) (by omega), wr64 (a + b) (by omega) (by omega)]
  · rw [if_neg h1]
    by_cases h2 : b < 0
    · rw [if_pos h2, wr64 (-9223372036854775808 - b) (by omega) (by omega)]
      by_cases h3 : a < -9223372036854775808 - b
      · rw [if_pos h3, fit64_out (by omega)]
      · rw [if_neg h3, fit64_in (by omega) (by omega), wr64 (a + b) (by omega) (by omega)]
    · rw [if_neg h2, fit64_in (by omega) (by omega), wr64 (a + b) (by omega) (by omega)]
theorem refSub_eq (a b : Int) (a0 : -9223372036854775808 ≤ a) (a1 : a ≤ 9223372036854775807) (b0 : -9223372036854775808 ≤ b) (b1 : b ≤ 9223372036854775807) : bellbuoyref01_Sub.f a b = some (fit64 (a - b)) := by
  unfold bellbuoyref01_Sub.f
  by_cases h1 : b < 0
  · rw [if_pos h1, wr64 (9223372036854775807 + b) (by omega) (by omega)]
    by_cases h2 : a > 9223372036854775807 + b
    · rw [if_pos h2, fit64_out (by omega)]
    · rw [if_neg h2, if_neg (by omega), fit64_in (by omega) (by omega), wr64 (a - b) (by omega) (by omega)]
  · rw [if_neg h1]
    by_cases h2 : b > 0
    · rw [if_pos h2, wr64 (-9223372036854775808 + b) (by omega) (by omega)]
      by_cases h3 : a < -9223372036854775808 + b
      · rw [if_pos h3, fit64_out (by omega)]
      · rw [if_neg h3, fit64_in (by omega) (by omega), wr64 (a - b) (by omega) (by omega)]
    · rw [if_neg h2, fit64_in (by omega) (by omega), wr64 (a - b) (by omega) (by omega)]
theorem refMul_eq (a b : Int) (a0 : -9223372036854775808 ≤ a) (a1 : a ≤ 9223372036854775807) (b0 : -9223372036854775808 ≤ b) (b1 : b ≤ 9223372036854775807) : bellbuoyref01_Mul.f 131 a b = some (fits (a * b)) := by
  obtain ⟨P, hP, hP0, hP1⟩ := signs a b
  unfold bellbuoyref01_Mul.f
  rw [size_eq a a0 a1, size_eq b b0 b1]
  simp only [Option.bind_some]
  rw [times_eq _ _ (by split <;> omega) (by split <;> omega) (by split <;> omega) (by split <;> omega) 131 (by omega), hP]
  simp only [Option.bind_some]
  rw [signed_eq _ _ _ (by omega) (by omega) (by omega) _ (by omega), show P / 18446744073709551616 * 18446744073709551616 + P % 18446744073709551616 = P by omega, sgn, ← hP1]
  rfl
theorem RRight_eq (s : Sg) : bellbuoyref37_Right.f 198 s.st s.ln s.big s.sgn s.sc s.off = some (!badS s) := by
  unfold bellbuoyref37_Right.f
  rw [RPlaces_eq]
  simp only [Option.bind_some]
  congr 1
  cases hb : badS s
  · have g := good_ln hb
    have := placesV_good hb
    rw [decide_eq_true (by omega)]
    rfl
  · rw [placesV_nil.2 hb]
    rfl
theorem rrange_tab : ∀ n : Fin 64, wrap64 (IntKind.u64.wrap ((shl .u64 1 (IntKind.u64.wrap (wrap64 ((n.1 : Int) + 1 - 1)))) - 1)) = 2 ^ n.1 - 1 ∧ (n.1 ≤ 62 → wrap64 (IntKind.u64.wrap ((shl .u64 1 (IntKind.u64.wrap ((n.1 : Int) + 1))) - 1)) = 2 ^ (n.1 + 1) - 1) := by decide +kernel
theorem RRange_eq (s : Sg) : bellbuoyref37_Range.f 198 s.st s.ln s.big s.sgn s.sc s.off = some (rangeV s) := by
  unfold bellbuoyref37_Range.f rangeV
  rw [RRight_eq]
  simp only [Option.bind_some]
  cases hb : badS s
  · have g := good_ln hb
    simp only [Bool.not_false, if_true, Bool.false_eq_true, if_false]
    obtain ⟨n, hn⟩ : ∃ n : Fin 64, s.ln = (n.1 : Int) + 1 := ⟨⟨(s.ln - 1).toNat, by omega⟩, by show s.ln = (((s.ln - 1).toNat : Nat) : Int) + 1; omega⟩
    obtain ⟨t1, t2, t3⟩ := range_tab n
    obtain ⟨r1, r2⟩ := rrange_tab n
    have w0 : ∀ x : Int, 0 ≤ IntKind.u64.wrap x := fun x => by rw [mod64]; omega
    cases hs : s.sgn
    · simp only [Bool.false_eq_true, if_false]
      rw [if_pos (w0 _), hn, r2 (by have := g.2.2.1 hs; omega)]
      rw [show ((n.1 : Int) + 1).toNat = n.1 + 1 by omega]
    · simp only [if_true]
      rw [if_pos (w0 _), hn, t1, r1]
      rw [show ((n.1 : Int) + 1 - 1).toNat = n.1 by omega]
  · rfl
theorem Rin_eq (s : Sg) (raw : Int) : bellbuoyref37_in.f 198 s.st s.ln s.big s.sgn s.sc s.off raw = some (fitsV s raw) := by
  unfold bellbuoyref37_in.f fitsV
  rw [RRange_eq, RRight_eq]
  simp only [Option.bind_some]
  cases hb : badS s
  · simp only [Bool.not_false, if_true, Bool.true_and]
    by_cases h1 : raw ≥ (rangeV s).1
    · rw [if_pos h1]
      congr 1
      by_cases h2 : raw ≤ (rangeV s).2
      · rw [decide_eq_true h2, decide_eq_true ⟨h1, h2⟩]
      · rw [decide_eq_false h2, decide_eq_false (fun h => h2 h.2)]
    · rw [if_neg h1, decide_eq_false (fun h => h1 h.1)]
  · rfl
theorem no_fits {s : Sg} (h : badS s = true) (r : Int) : fitsV s r = false := by
  unfold fitsV
  rw [h]
  rfl
theorem no_worth {s : Sg} {r : Int} (h : fitsV s r = false) : worthV s r = (0, false) := by
  unfold worthV
  split
  · exact if_neg (by rw [h]; simp)
  · rfl
theorem RWorth_eq (s : Sg) {raw : Int} (h1 : In64 raw) (h2 : In64 s.sc) (h3 : In64 s.off) : bellbuoyref37_Worth.f 198 s.st s.ln s.big s.sgn s.sc s.off raw = some (worthV s raw) := by
  have hm := liftO (f := fun k => bellbuoyref01_Mul.f k raw s.sc) (fun k => bellbuoyref01_Mul.mono _ _ k) 67 131 (refMul_eq raw s.sc h1.def.1 h1.def.2 h2.def.1 h2.def.2)
  unfold bellbuoyref37_Worth.f
  rw [Rin_eq]
  simp only [Option.bind_some]
  have hm : bellbuoyref01_Mul.f 198 raw s.sc = some (fit64 (raw * s.sc)) := hm
  by_cases hf : fitsV s raw = true
  · rw [if_pos hf, hm]
    simp only [Option.bind_some]
    unfold worthV
    by_cases hp : (fit64 (raw * s.sc)).2 = true
    · obtain ⟨e, hi⟩ := fit_true hp
      rw [if_pos hp, if_pos hp, if_pos hf, e, refAdd_eq _ _ hi.def.1 hi.def.2 h3.def.1 h3.def.2]
      rfl
    · rw [if_neg hp, if_neg hp]
  · rw [if_neg hf, no_worth (by simpa using hf)]
theorem raw_bad {s : Sg} (h : badS s = true) (x : Int) : rawV s x = (0, false) := by
  unfold rawV
  rw [no_worth (no_fits h _)]
  split
  · split <;> rfl
  · rfl
/-- A raw number, by what the document asks. -/
def rawD (s : Sg) (n : Int) : Int × Bool := if s.sc = -1 ∧ n = -9223372036854775808 ∨ Int.tmod n s.sc ≠ 0 then (0, false) else if fitsV s (wrap64 (Int.tdiv n s.sc)) = true then (wrap64 (Int.tdiv n s.sc), true) else (0, false)
theorem rawD_else {s : Sg} {n : Int} (h : ¬ (s.sc = -1 ∧ n = -9223372036854775808 ∨ Int.tmod n s.sc ≠ 0)) : rawD s n = if fitsV s (wrap64 (Int.tdiv n s.sc)) = true then (wrap64 (Int.tdiv n s.sc), true) else (0, false) := if_neg h
theorem rawV_no {s : Sg} {x : Int} (hq : (quotV (x - s.off) s.sc).2 = false) : rawV s x = (0, false) := by
  unfold rawV
  rw [hq]
  split <;> rfl
theorem rawV_yes {s : Sg} {x q : Int} (hn : In64 (x - s.off)) (hq : quotV (x - s.off) s.sc = (q, true)) (hw : worthV s q = (x, true)) : rawV s x = (q, true) := by
  unfold rawV
  rw [show fit64 (x - s.off) = (x - s.off, true) from if_pos hn, hq]
  simp only [if_true]
  rw [hw]
  simp only [if_true]
theorem rawV_not {s : Sg} {x q : Int} (hq : quotV (x - s.off) s.sc = (q, true)) (hw : worthV s q ≠ (x, true)) : rawV s x = (0, false) := by
  unfold rawV
  rw [hq]
  split
  · simp only [if_true]
    split
    · next h1 =>
      split
      · next h2 => exact absurd (Prod.ext h2 h1) hw
      · rfl
    · rfl
  · rfl
theorem worth_of {s : Sg} {q n x : Int} (hp : q * s.sc = n) (hn : In64 n) (hx : In64 x) (e : n + s.off = x) (hf : fitsV s q = true) : worthV s q = (x, true) := by
  unfold worthV
  rw [hp, show fit64 n = (n, true) from if_pos hn]
  simp only [if_true]
  rw [if_pos hf, e]
  exact if_pos hx
theorem worth_ne {s : Sg} {q n x : Int} (hp : q * s.sc ≠ n) (e : n + s.off = x) : worthV s q ≠ (x, true) := by
  intro h
  have hw : (worthV s q).2 = true := by rw [h]
  unfold worthV at h hw
  split at hw
  · next h1 =>
    rw [if_pos h1] at h
    split at hw
    · next h2 =>
      rw [if_pos h2] at h
      obtain ⟨e5, _⟩ := fit_true hw
      rw [e5] at h
      injection h with h _
      exact hp (by omega)
    · cases hw
  · cases hw
theorem tdiv_64 {n b : Int} (hn : In64 n) (h0 : b ≠ 0) (h1 : b ≠ -1) : In64 (Int.tdiv n b) := by
  have hnd := hn.def
  by_cases hb : b = 1
  · rw [hb, Int.tdiv_one]
    exact hn
  · have h2 : 2 ≤ b.natAbs := by omega
    have e : (Int.tdiv n b).natAbs = n.natAbs / b.natAbs := Int.natAbs_tdiv n b
    have h3 : n.natAbs / b.natAbs ≤ n.natAbs / 2 := Nat.div_le_div_left h2 (by omega)
    constructor <;> omega
theorem rawD_eq {s : Sg} (hb : badS s = false) {x : Int} (hx : In64 x) (hn : In64 (x - s.off)) : rawV s x = rawD s (x - s.off) := by
  have g := good_ln hb
  have hsc := g.2.2.2.1
  have hnd := hn.def
  by_cases hm : s.sc = -1
  · by_cases hmin : x - s.off = -9223372036854775808
    · have e : (quotV (x - s.off) s.sc).2 = false := by
        unfold quotV
        rw [if_neg hsc, if_pos hm]
        unfold fit64
        rw [if_neg (by omega)]
      rw [rawV_no e]
      exact (if_pos (.inl ⟨hm, hmin⟩)).symm
    · have e : quotV (x - s.off) s.sc = (-(x - s.off), true) := by
        unfold quotV
        rw [if_neg hsc, if_pos hm]
        unfold fit64
        rw [if_pos (by omega), show 0 - (x - s.off) = -(x - s.off) by omega]
      have h2 : Int.tdiv (x - s.off) s.sc = -(x - s.off) := by rw [hm, Int.tdiv_neg, Int.tdiv_one]
      have et : Int.tmod (x - s.off) s.sc = 0 := by
        have := Int.mul_tdiv_add_tmod (x - s.off) s.sc
        rw [h2, hm] at this
        rw [hm]
        omega
      have ed : wrap64 (Int.tdiv (x - s.off) s.sc) = -(x - s.off) := by
        rw [h2]
        exact wr64 _ (by omega) (by omega)
      rw [rawD_else (fun h => h.elim (fun h => hmin h.2) (fun h => h et)), ed]
      by_cases hf : fitsV s (-(x - s.off)) = true
      · rw [if_pos hf]
        exact rawV_yes hn e (worth_of (n := x - s.off) (by rw [hm]; omega) hn hx (by omega) hf)
      · rw [if_neg hf]
        exact rawV_not e (by rw [no_worth (by simpa using hf)]; intro h; cases h)
  · have q64 := tdiv_64 hn hsc hm
    have ew : wrap64 (Int.tdiv (x - s.off) s.sc) = Int.tdiv (x - s.off) s.sc := wr64 _ q64.def.1 q64.def.2
    have e : quotV (x - s.off) s.sc = (Int.tdiv (x - s.off) s.sc, true) := by
      unfold quotV
      rw [if_neg hsc, if_neg hm, ew]
    have hd := Int.mul_tdiv_add_tmod (x - s.off) s.sc
    by_cases et : Int.tmod (x - s.off) s.sc = 0
    · rw [rawD_else (fun h => h.elim (fun h => hm h.1) (fun h => h et)), ew]
      by_cases hf : fitsV s (Int.tdiv (x - s.off) s.sc) = true
      · rw [if_pos hf]
        exact rawV_yes hn e (worth_of (n := x - s.off) (by rw [Int.mul_comm]; omega) hn hx (by omega) hf)
      · rw [if_neg hf]
        exact rawV_not e (by rw [no_worth (by simpa using hf)]; intro h; cases h)
    · rw [show rawD s (x - s.off) = (0, false) from if_pos (.inr et)]
      exact rawV_not e (worth_ne (n := x - s.off) (by rw [Int.mul_comm]; omega) (by omega))
theorem RRaw_eq (s : Sg) {x : Int} (h1 : In64 x) (h2 : In64 s.sc) (h3 : In64 s.off) : ∃ k, bellbuoyref37_Raw.f k s.st s.ln s.big s.sgn s.sc s.off x = some (rawV s x) := by
  have rin := fun r => liftO (f := fun k => bellbuoyref37_in.f k s.st s.ln s.big s.sgn s.sc s.off r) (fun k => bellbuoyref37_in.mono _ _ _ _ _ _ _ k) 1 198 (Rin_eq s r)
  have rr := liftO (f := fun k => bellbuoyref37_Right.f k s.st s.ln s.big s.sgn s.sc s.off) (fun k => bellbuoyref37_Right.mono _ _ _ _ _ _ k) 2 198 (RRight_eq s)
  have rin : ∀ r, bellbuoyref37_in.f 199 s.st s.ln s.big s.sgn s.sc s.off r = some (fitsV s r) := rin
  have rr : bellbuoyref37_Right.f 200 s.st s.ln s.big s.sgn s.sc s.off = some (!badS s) := rr
  have jt : ∀ n, bellbuoyref37_Raw.j0 200 n true s.st s.ln s.big s.sgn s.sc s.off = some (0, false) := fun n => rfl
  refine ⟨200, ?_⟩
  unfold bellbuoyref37_Raw.f
  rw [refSub_eq _ _ h1.def.1 h1.def.2 h3.def.1 h3.def.2]
  simp only [Option.bind_some]
  by_cases hf : (fit64 (x - s.off)).2 = true
  · obtain ⟨e, hi⟩ := fit_true hf
    rw [if_pos hf, rr, e]
    simp only [Option.bind_some]
    cases hb : badS s
    · have g := good_ln hb
      have hsc := g.2.2.2.1
      simp only [Bool.not_false, if_true]
      rw [rawD_eq hb h1 hi]
      have jb : ∀ b, bellbuoyref37_Raw.j0 200 (x - s.off) b s.st s.ln s.big s.sgn s.sc s.off = some (if b = true then (0, false) else if fitsV s (wrap64 (Int.tdiv (x - s.off) s.sc)) = true then (wrap64 (Int.tdiv (x - s.off) s.sc), true) else (0, false)) := by
        intro b
        show (if b = true then some ((0 : Int), false) else (if s.sc = 0 then none else ((bellbuoyref37_in.f 199 s.st s.ln s.big s.sgn s.sc s.off (wrap64 (Int.tdiv (x - s.off) s.sc))).bind fun t194 => (if t194 = true then (some (wrap64 (Int.tdiv (x - s.off) s.sc), true)) else (some (0, false)))))) = _
        rw [if_neg hsc, rin]
        simp only [Option.bind_some]
        split
        · rfl
        · split <;> rfl
      by_cases hm : s.sc = -1
      · rw [if_pos hm]
        by_cases hmin : x - s.off = -9223372036854775808
        · rw [if_pos hmin, jt]
          exact congrArg some (if_pos (.inl ⟨hm, hmin⟩)).symm
        · rw [if_neg hmin, if_neg hsc, jb]
          by_cases et : Int.tmod (x - s.off) s.sc = 0
          · rw [rawD_else (fun h => h.elim (fun h => hmin h.2) (fun h => h et)), show (Int.tmod (x - s.off) s.sc != 0) = false by simpa using et]
            simp only [Bool.false_eq_true, if_false]
          · rw [show rawD s (x - s.off) = (0, false) from if_pos (.inr et), show (Int.tmod (x - s.off) s.sc != 0) = true by simpa using et]
            simp only [if_true]
      · rw [if_neg hm, if_neg hsc, jb]
        by_cases et : Int.tmod (x - s.off) s.sc = 0
        · rw [rawD_else (fun h => h.elim (fun h => hm h.1) (fun h => h et)), show (Int.tmod (x - s.off) s.sc != 0) = false by simpa using et]
          simp only [Bool.false_eq_true, if_false]
        · rw [show rawD s (x - s.off) = (0, false) from if_pos (.inr et), show (Int.tmod (x - s.off) s.sc != 0) = true by simpa using et]
          simp only [if_true]
    · simp only [Bool.not_true, Bool.false_eq_true, if_false]
      rw [jt, raw_bad hb]
  · rw [if_neg hf]
    have : rawV s x = (0, false) := by
      unfold rawV
      rw [if_neg hf]
    rw [this]
    exact jt _
theorem Same_l0 (l : List Int) (hl : l.length ≤ 1000) : ∀ (m i : Nat), i + m = l.length → bellbuoyref15_SameInts.l0 (m + 1) l l (i : Int) = some true
  | 0, i, h => by
    unfold bellbuoyref15_SameInts.l0
    rw [if_neg (by omega)]
  | m + 1, i, h => by
    unfold bellbuoyref15_SameInts.l0
    rw [if_pos (by omega), if_pos (by omega), if_pos (by omega), if_pos rfl, show wrap64 ((i : Int) + 1) = ((i + 1 : Nat) : Int) by rw [wr_small _ (by omega) (by omega)]; rfl]
    exact Same_l0 l hl m (i + 1) (by omega)
theorem Same_eq (l : List Int) (hl : l.length ≤ 1000) : bellbuoyref15_SameInts.f (l.length + 1) l l = some true := by
  unfold bellbuoyref15_SameInts.f
  rw [if_pos rfl]
  exact Same_l0 l hl l.length 0 (by omega)
end Go.Proofs.Ytepeihlhokpjjaa.P
