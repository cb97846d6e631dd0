/- What is proved here: each Go function that this text names answers as the Lean function of its name says, whenever that one answers; and a law's row follows from its plain statement. Laid by a program of the session over the kit's print. -/
import Derived.Test.YtgekhkigeanajaaPx0
import Derived.Test.YtgekhkigeanajaaPx1
import Derived.Test.YtgekhkigeanajaaPx2
namespace Go.Proofs.Ytgekhkigeanajaa.P
open Go.RowKit Go.Proofs.YtgekhkigeanajaaW.PrintWords Go.Proofs.YtgekhkigeanajaaW.PrintLast Go.Proofs.YtgekhkigeanajaaW.PrintMore
attribute [local go_sem] max2_int min2_int max_two min_two max_three min_three max_four min_four   -- for this text's walks alone
set_option linter.unusedVariables false
set_option linter.unusedSimpArgs false

/-! ### exact_Scale: function 41 -/
theorem xsize_eq (a : Int) (h0 : -9223372036854775808 ≤ a) (h1 : a ≤ 9223372036854775807) : exact_size.f a = some (if a < 0 then -a else a) := by
  unfold exact_size.f mx
  rw [mod64]
  congr 1
  unfold wrap64
  split <;> split <;> omega

theorem Mul64_eq (a b : Int) (a0 : 0 ≤ a) (a1 : a < 18446744073709551616) (b0 : 0 ≤ b) (b1 : b < 18446744073709551616) : bits_Mul64.f a b = some (a * b / 18446744073709551616, a * b % 18446744073709551616) := by
  unfold bits_Mul64.f
  rw [low32 a a0 a1, low32 b b0 b1]
  have hab : a * b = (a / 4294967296 * (b / 4294967296)) * 18446744073709551616 + (a / 4294967296 * (b % 4294967296) + a % 4294967296 * (b / 4294967296)) * 4294967296 + a % 4294967296 * (b % 4294967296) := by
    have ea : a = a / 4294967296 * 4294967296 + a % 4294967296 := by omega
    have eb : b = b / 4294967296 * 4294967296 + b % 4294967296 := by omega
    generalize a / 4294967296 = x at *
    generalize a % 4294967296 = y at *
    generalize b / 4294967296 = z at *
    generalize b % 4294967296 = v at *
    rw [ea, eb]
    simp only [Int.mul_add, Int.add_mul]
    have h1 : x * 4294967296 * (z * 4294967296) = x * z * 18446744073709551616 := by
      rw [Int.mul_assoc, Int.mul_left_comm 4294967296 z, ← Int.mul_assoc, show (4294967296 : Int) * 4294967296 = 18446744073709551616 from rfl]
    have h2 : x * 4294967296 * v = x * v * 4294967296 := by rw [Int.mul_assoc, Int.mul_comm 4294967296 v, ← Int.mul_assoc]
    have h3 : y * (z * 4294967296) = y * z * 4294967296 := by rw [← Int.mul_assoc]
    rw [h1, h2, h3]
    omega
  have m : ∀ x y : Int, 0 ≤ x → x < 4294967296 → 0 ≤ y → y < 4294967296 → 0 ≤ x * y ∧ x * y ≤ 18446744065119617025 := by
    intro x y x0 x1 y0 y1
    exact ⟨Int.mul_nonneg x0 y0, by have := Int.mul_le_mul (show x ≤ 4294967295 by omega) (show y ≤ 4294967295 by omega) y0 (by omega); omega⟩
  have m1 := m (a / 4294967296) (b / 4294967296) (by omega) (by omega) (by omega) (by omega)
  have m2 := m (a / 4294967296) (b % 4294967296) (by omega) (by omega) (by omega) (by omega)
  have m3 := m (a % 4294967296) (b / 4294967296) (by omega) (by omega) (by omega) (by omega)
  have m4 := m (a % 4294967296) (b % 4294967296) (by omega) (by omega) (by omega) (by omega)
  rw [hab]
  clear hab m
  generalize a / 4294967296 * (b / 4294967296) = z1 at *
  generalize a / 4294967296 * (b % 4294967296) = z2 at *
  generalize a % 4294967296 * (b / 4294967296) = z3 at *
  generalize a % 4294967296 * (b % 4294967296) = z4 at *
  have w1 : IntKind.u64.wrap z1 = z1 := by rw [mod64]; omega
  have w2 : IntKind.u64.wrap z2 = z2 := by rw [mod64]; omega
  have w3 : IntKind.u64.wrap z3 = z3 := by rw [mod64]; omega
  have w4 : IntKind.u64.wrap z4 = z4 := by rw [mod64]; omega
  rw [w1, w2, w3, w4]
  have w5 : IntKind.u64.wrap (z2 + z4 / 4294967296) = z2 + z4 / 4294967296 := by rw [mod64]; omega
  rw [w5, low32 _ (by omega) (by omega)]
  have w6 : IntKind.u64.wrap ((z2 + z4 / 4294967296) % 4294967296 + z3) = (z2 + z4 / 4294967296) % 4294967296 + z3 := by rw [mod64]; omega
  rw [w6, mod64, mod64, mod64]
  congr 2
  · omega

set_option maxHeartbeats 2000000 in
set_option maxRecDepth 100000 in
theorem signed_walk (p0 p1 : Int) (below g1 g2 : Bool) (w : World) (e1 : decide (0 < p0) = g1) (e2 : decide ((if below = true then 9223372036854775808 else 9223372036854775807) < p1) = g2) (hp : g1 = false → g2 = false → 0 ≤ p1 ∧ p1 ≤ 9223372036854775808) :
    Calls Try.prog 53 #[.agg #[.int .u64 p0, .int .u64 p1], .bool below] w fun e w' => e = .returned (if (g1 || g2) = true then .tuple #[.int .i64 0, .bool false] else .tuple #[.int .i64 (if below = true then -p1 else p1), .bool true]) ∧ Below w.heap.size w w' := by
  have hu34 := Try.underlying69
  have Hp := Aside0.mk hp
  clear hp
  cases below <;> cases g1 <;> cases g2
  all_goals
    simp only [Bool.false_eq_true, if_false, if_true, Bool.or_false, Bool.or_true] at e2 ⊢
    go_enter Try.func53, Try.ntmps53
    go_wp2
    go_ret2
    refine ⟨?_, below_alloc (Below.refl _ _) _⟩
    first | rfl | skip
  · have hh := Hp.out (by simp) (by simp)
    have h1 : wrap64 p1 = p1 := by rw [decide_eq_false_iff_not] at e2; unfold wrap64; omega
    show Ending.returned (.tuple #[.int .i64 (wrap64 p1), .bool true]) = _
    rw [h1]
  · have hh := Hp.out (by simp) (by simp)
    have h1 : wrap64 (IntKind.u64.wrap (bits .xor .u64 IntKind.u64.max p1 + 1)) = -p1 := by rw [xor_max p1 (by omega) (by omega), mod64]; unfold wrap64; omega
    show Ending.returned (.tuple #[.int .i64 (wrap64 (IntKind.u64.wrap (bits .xor .u64 IntKind.u64.max p1 + 1))), .bool true]) = _
    rw [h1]
theorem signed_calls (p0 p1 r1 : Int) (below r2 : Bool) (w : World) (h0 : 0 ≤ p0) (g0 : 0 ≤ p1) (g1 : p1 < 18446744073709551616) (hs : sgn (p0 * 18446744073709551616 + p1) below = (r1, r2)) :
    Calls Try.prog 53 #[.agg #[.int .u64 p0, .int .u64 p1], .bool below] w fun e w' => e = .returned (.tuple #[.int .i64 r1, .bool r2]) ∧ Below w.heap.size w w' := by
  refine (signed_walk p0 p1 below _ _ w rfl rfl (fun _ h => ?_)).mono ?_
  · rw [decide_eq_false_iff_not] at h
    revert h
    split <;> omega
  · rintro e w' ⟨rfl, hb⟩
    refine ⟨?_, hb⟩
    by_cases c1 : 0 < p0
    · rw [decide_eq_true c1, Bool.true_or, if_pos rfl]
      have : sgn (p0 * 18446744073709551616 + p1) below = (0, false) := by
        unfold sgn fits
        cases below
        · simp only [Bool.false_eq_true, if_false]
          rw [if_neg (by omega)]
        · rw [if_pos rfl, if_neg (by omega)]
      rw [this] at hs
      simp only [Prod.mk.injEq] at hs
      rw [← hs.1, ← hs.2]
    · obtain rfl : p0 = 0 := by omega
      rw [decide_eq_false c1, Bool.false_or]
      by_cases c2 : (if below = true then 9223372036854775808 else 9223372036854775807) < p1
      · rw [decide_eq_true c2, if_pos rfl]
        have : sgn (0 * 18446744073709551616 + p1) below = (0, false) := by
          unfold sgn fits
          cases below
          · simp only [Bool.false_eq_true, if_false] at c2 ⊢
            rw [if_neg (by omega)]
          · rw [if_pos rfl] at c2 ⊢
            rw [if_neg (by omega)]
        rw [this] at hs
        simp only [Prod.mk.injEq] at hs
        rw [← hs.1, ← hs.2]
      · rw [decide_eq_false c2, if_neg (by simp)]
        have : sgn (0 * 18446744073709551616 + p1) below = (if below = true then -p1 else p1, true) := by
          unfold sgn fits
          cases below
          · simp only [Bool.false_eq_true, if_false] at c2 ⊢
            rw [if_pos (by omega), Int.zero_mul, Int.zero_add]
          · rw [if_pos rfl] at c2 ⊢
            rw [if_pos (by omega), Int.zero_mul, Int.zero_add, if_pos rfl]
        rw [this] at hs
        simp only [Prod.mk.injEq] at hs
        rw [← hs.1, ← hs.2]

theorem l0_spec (Y s y1 y0 h m m2 : Int) (hY : Y = y1 * 4294967296 + y0) (a0 : 2147483648 ≤ y1) (a1 : y1 < 4294967296) (b0 : 0 ≤ y0) (b1 : y0 < 4294967296) (h0 : 0 ≤ h) (h1 : h < Y) (m0 : 0 ≤ m) (m1 : m < 4294967296) :
    ∀ (n : Nat) (j : Nat) (q r : Int), h = q * y1 + r → 0 ≤ r → r < 4294967296 → 4294967296 ≤ r + n * 2147483648 → (h * 4294967296 + m) / Y ≤ q → q < 18446744073709551616 →
      ∃ k, j ≤ k ∧ bits_Div64.l0 (2 * n + 2 + j) Y s y1 y0 h m m2 q r = bits_Div64.j2 k Y s y1 y0 h m m2 ((h * 4294967296 + m) / Y) := by
  intro n
  induction n with
  | zero => intro j q r hq r0 r1 hn; omega
  | succ n ih =>
    intro j q r hq r0 r1 hn hQ qM
    have q0 : 0 ≤ (h * 4294967296 + m) / Y := Int.ediv_nonneg (by omega) (by omega)
    have ht := kn_test Y y1 y0 h m hY a0 a1 b0 b1 h0 h1 m0 m1 q r hq
    have step : (q * y0 > r * 4294967296 + m ∨ q ≥ 4294967296) → ∃ k, j ≤ k ∧ bits_Div64.j1 (2 * (n + 1) + 1 + j) Y s y1 y0 h m m2 q r true = bits_Div64.j2 k Y s y1 y0 h m m2 ((h * 4294967296 + m) / Y) := by
      intro hc
      have hlt : (h * 4294967296 + m) / Y < q := by
        rcases hc with hc | hc
        · apply Classical.byContradiction; intro h'; have := ht.2 (by omega); omega
        · have : (h * 4294967296 + m) / Y < 4294967296 := (Int.ediv_lt_iff_lt_mul (by omega)).2 (by omega)
          omega
      have hq' : h = (q - 1) * y1 + (r + y1) := by rw [Int.sub_mul, Int.one_mul]; omega
      rw [show 2 * (n + 1) + 1 + j = (2 * n + 2 + j) + 1 by omega]
      simp only [bits_Div64.j1, if_true]
      have w1 : IntKind.u64.wrap (r + y1) = r + y1 := by rw [mod64]; omega
      have w2 : IntKind.u64.wrap (q - 1) = q - 1 := by rw [mod64]; omega
      rw [w1, w2]
      by_cases hr : r + y1 ≥ 4294967296
      · rw [if_pos hr]
        have := kn_end Y y1 y0 h m hY a0 a1 b0 b1 h0 h1 m0 m1 (q - 1) (r + y1) hq' hr (by omega)
        exact ⟨2 * n + 2 + j, by omega, by rw [show q - 1 = (h * 4294967296 + m) / Y by omega]⟩
      · rw [if_neg hr]
        exact ih j (q - 1) (r + y1) hq' (by omega) (by omega) (by omega) (by omega) (by omega)
    rw [show 2 * (n + 1) + 2 + j = (2 * (n + 1) + 1 + j) + 1 by omega]
    simp only [bits_Div64.l0]
    by_cases hc : q ≥ 4294967296
    · rw [if_pos hc]
      exact step (.inr hc)
    · rw [if_neg hc]
      have p0 : 0 ≤ q * y0 := Int.mul_nonneg (by omega) b0
      have p1 : q * y0 ≤ 4294967295 * 4294967295 := Int.mul_le_mul (by omega) (by omega) b0 (by omega)
      have w1 : IntKind.u64.wrap (q * y0) = q * y0 := by rw [mod64]; omega
      have w2 : IntKind.u64.wrap (IntKind.u64.wrap (4294967296 * r) + m) = r * 4294967296 + m := by rw [mod64, mod64]; omega
      rw [w1, w2]
      by_cases hd : q * y0 > r * 4294967296 + m
      · rw [decide_eq_true hd]
        exact step (.inl hd)
      · rw [decide_eq_false hd, show 2 * (n + 1) + 1 + j = (2 * n + 2 + j) + 1 by omega]
        simp only [bits_Div64.j1, Bool.false_eq_true, if_false]
        have := ht.1 (by omega)
        exact ⟨2 * n + 2 + j, by omega, by rw [show q = (h * 4294967296 + m) / Y by omega]⟩
theorem l1_spec (Y s y1 y0 h m q1 : Int) (hs : 0 ≤ s) (hY : Y = y1 * 4294967296 + y0) (a0 : 2147483648 ≤ y1) (a1 : y1 < 4294967296) (b0 : 0 ≤ y0) (b1 : y0 < 4294967296) (h0 : 0 ≤ h) (h1 : h < Y) (m0 : 0 ≤ m) (m1 : m < 4294967296) (c0 : 0 ≤ q1) (c1 : q1 < 4294967296) :
    ∀ (n : Nat) (j : Nat) (q r : Int), h = q * y1 + r → 0 ≤ r → r < 4294967296 → 4294967296 ≤ r + n * 2147483648 → (h * 4294967296 + m) / Y ≤ q → q < 18446744073709551616 →
      bits_Div64.l1 (2 * n + 2 + j) Y s y1 y0 m q1 r h q = some (q1 * 4294967296 + (h * 4294967296 + m) / Y, shr .u64 ((h * 4294967296 + m) % Y) s) := by
  intro n
  have q0 : 0 ≤ (h * 4294967296 + m) / Y := Int.ediv_nonneg (by omega) (by omega)
  have q2 : (h * 4294967296 + m) / Y < 4294967296 := (Int.ediv_lt_iff_lt_mul (by omega)).2 (by omega)
  have e := Int.mul_ediv_add_emod (h * 4294967296 + m) Y
  have e0 := Int.emod_nonneg (h * 4294967296 + m) (b := Y) (by omega)
  have e1 := Int.emod_lt_of_pos (h * 4294967296 + m) (b := Y) (by omega)
  have fin1 : IntKind.u64.wrap (IntKind.u64.wrap (q1 * 4294967296) + (h * 4294967296 + m) / Y) = q1 * 4294967296 + (h * 4294967296 + m) / Y := by rw [mod64, mod64]; omega
  have fin2 : IntKind.u64.wrap (IntKind.u64.wrap (IntKind.u64.wrap (h * 4294967296) + m) - IntKind.u64.wrap ((h * 4294967296 + m) / Y * Y)) = (h * 4294967296 + m) % Y := by
    rw [Int.mul_comm Y] at e
    rw [mod64, mod64, mod64, mod64]
    generalize (h * 4294967296 + m) / Y * Y = z at *
    omega
  induction n with
  | zero => intro j q r hq r0 r1 hn; omega
  | succ n ih =>
    intro j q r hq r0 r1 hn hQ qM
    have ht := kn_test Y y1 y0 h m hY a0 a1 b0 b1 h0 h1 m0 m1 q r hq
    have step : (q * y0 > r * 4294967296 + m ∨ q ≥ 4294967296) → bits_Div64.j4 (2 * (n + 1) + 1 + j) Y s y1 y0 m q1 r h q true = some (q1 * 4294967296 + (h * 4294967296 + m) / Y, shr .u64 ((h * 4294967296 + m) % Y) s) := by
      intro hc
      have hlt : (h * 4294967296 + m) / Y < q := by
        rcases hc with hc | hc
        · apply Classical.byContradiction; intro h'; have := ht.2 (by omega); omega
        · omega
      have hq' : h = (q - 1) * y1 + (r + y1) := by rw [Int.sub_mul, Int.one_mul]; omega
      rw [show 2 * (n + 1) + 1 + j = (2 * n + 2 + j) + 1 by omega]
      simp only [bits_Div64.j4, if_true]
      have w1 : IntKind.u64.wrap (r + y1) = r + y1 := by rw [mod64]; omega
      have w2 : IntKind.u64.wrap (q - 1) = q - 1 := by rw [mod64]; omega
      rw [w1, w2]
      by_cases hr : r + y1 ≥ 4294967296
      · have := kn_end Y y1 y0 h m hY a0 a1 b0 b1 h0 h1 m0 m1 (q - 1) (r + y1) hq' hr (by omega)
        rw [if_pos hr, if_pos hs, show q - 1 = (h * 4294967296 + m) / Y by omega, fin1, fin2]
      · rw [if_neg hr]
        exact ih j (q - 1) (r + y1) hq' (by omega) (by omega) (by omega) (by omega) (by omega)
    rw [show 2 * (n + 1) + 2 + j = (2 * (n + 1) + 1 + j) + 1 by omega]
    simp only [bits_Div64.l1]
    by_cases hc : q ≥ 4294967296
    · rw [if_pos hc]
      exact step (.inr hc)
    · rw [if_neg hc]
      have p0 : 0 ≤ q * y0 := Int.mul_nonneg (by omega) b0
      have p1 : q * y0 ≤ 4294967295 * 4294967295 := Int.mul_le_mul (by omega) (by omega) b0 (by omega)
      have w1 : IntKind.u64.wrap (q * y0) = q * y0 := by rw [mod64]; omega
      have w2 : IntKind.u64.wrap (IntKind.u64.wrap (4294967296 * r) + m) = r * 4294967296 + m := by rw [mod64, mod64]; omega
      rw [w1, w2]
      by_cases hd : q * y0 > r * 4294967296 + m
      · rw [decide_eq_true hd]
        exact step (.inl hd)
      · rw [decide_eq_false hd, show 2 * (n + 1) + 1 + j = (2 * n + 2 + j) + 1 by omega]
        simp only [bits_Div64.j4, Bool.false_eq_true, if_false]
        have := ht.1 (by omega)
        rw [if_pos hs, show q = (h * 4294967296 + m) / Y by omega, fin1, fin2]
/-- The normalised division. -/
theorem Div64_norm (Y s N1 N0 : Int) (hs : 0 ≤ s) (Y0 : 9223372036854775808 ≤ Y) (Y1 : Y < 18446744073709551616) (n0 : 0 ≤ N1) (n1 : N1 < Y) (l0 : 0 ≤ N0) (l1 : N0 < 18446744073709551616) :
    bits_Div64.l0 20 Y s (Y / 4294967296) (bits .and .u64 Y 4294967295) N1 (N0 / 4294967296) (bits .and .u64 N0 4294967295) (IntKind.u64.wrap (Int.tdiv N1 (Y / 4294967296))) (IntKind.u64.wrap (N1 - IntKind.u64.wrap (IntKind.u64.wrap (Int.tdiv N1 (Y / 4294967296)) * (Y / 4294967296)))) =
      some ((N1 * 18446744073709551616 + N0) / Y, shr .u64 ((N1 * 18446744073709551616 + N0) % Y) s) := by
  rw [low32 Y (by omega) Y1, low32 N0 l0 l1, quo_u64 N1 _ n0 (by omega) (by omega), rem_u64 N1 _ n0 (by omega) (by omega)]
  have e1 := Int.mul_ediv_add_emod N1 (Y / 4294967296)
  have r0 := Int.emod_nonneg N1 (b := Y / 4294967296) (by omega)
  have r1 := Int.emod_lt_of_pos N1 (b := Y / 4294967296) (by omega)
  rw [Int.mul_comm] at e1
  have hle := Int.ediv_le_self (Y / 4294967296) n0
  obtain ⟨k, hk, hk2⟩ := l0_spec Y s (Y / 4294967296) (Y % 4294967296) N1 (N0 / 4294967296) (N0 % 4294967296) (by omega) (by omega) (by omega) (by omega) (by omega) n0 n1 (by omega) (by omega) 2 14 (N1 / (Y / 4294967296)) (N1 % (Y / 4294967296)) (by omega) r0 (by omega) (by omega)
    (kn_first Y (Y / 4294967296) (Y % 4294967296) N1 (N0 / 4294967296) (by omega) (by omega) (by omega) (by omega) (by omega) n0 n1 (by omega) (by omega)) (by omega)
  rw [hk2]
  obtain ⟨j, rfl⟩ : ∃ j, k = (2 * 2 + 2 + j) + 1 := ⟨k - 7, by omega⟩
  simp only [bits_Div64.j2]
  rw [if_neg (by omega)]
  have q0 : 0 ≤ (N1 * 4294967296 + N0 / 4294967296) / Y := Int.ediv_nonneg (by omega) (by omega)
  have q2 : (N1 * 4294967296 + N0 / 4294967296) / Y < 4294967296 := (Int.ediv_lt_iff_lt_mul (by omega)).2 (by omega)
  have e2 := Int.mul_ediv_add_emod (N1 * 4294967296 + N0 / 4294967296) Y
  have s0 := Int.emod_nonneg (N1 * 4294967296 + N0 / 4294967296) (b := Y) (by omega)
  have s1 := Int.emod_lt_of_pos (N1 * 4294967296 + N0 / 4294967296) (b := Y) (by omega)
  rw [Int.mul_comm] at e2
  have hR : IntKind.u64.wrap (IntKind.u64.wrap (IntKind.u64.wrap (N1 * 4294967296) + N0 / 4294967296) - IntKind.u64.wrap ((N1 * 4294967296 + N0 / 4294967296) / Y * Y)) = (N1 * 4294967296 + N0 / 4294967296) % Y := by
    rw [mod64, mod64, mod64, mod64]
    generalize (N1 * 4294967296 + N0 / 4294967296) / Y * Y = z at *
    omega
  rw [hR]
  generalize hRR : (N1 * 4294967296 + N0 / 4294967296) % Y = R at *
  generalize hQQ : (N1 * 4294967296 + N0 / 4294967296) / Y = Q at *
  rw [quo_u64 R _ s0 (by omega) (by omega), rem_u64 R _ s0 (by omega) (by omega)]
  have e3 := Int.mul_ediv_add_emod R (Y / 4294967296)
  have t0 := Int.emod_nonneg R (b := Y / 4294967296) (by omega)
  have t1 := Int.emod_lt_of_pos R (b := Y / 4294967296) (by omega)
  rw [Int.mul_comm] at e3
  have hle2 := Int.ediv_le_self (Y / 4294967296) s0
  rw [l1_spec Y s (Y / 4294967296) (Y % 4294967296) R (N0 % 4294967296) Q hs (by omega) (by omega) (by omega) (by omega) (by omega) s0 s1 (by omega) (by omega) q0 q2 2 j (R / (Y / 4294967296)) (R % (Y / 4294967296)) (by omega) t0 (by omega) (by omega)
    (kn_first Y (Y / 4294967296) (Y % 4294967296) R (N0 % 4294967296) (by omega) (by omega) (by omega) (by omega) (by omega) s0 s1 (by omega) (by omega)) (by omega)]
  have e4 := Int.mul_ediv_add_emod (R * 4294967296 + N0 % 4294967296) Y
  have v0 := Int.emod_nonneg (R * 4294967296 + N0 % 4294967296) (b := Y) (by omega)
  have v1 := Int.emod_lt_of_pos (R * 4294967296 + N0 % 4294967296) (b := Y) (by omega)
  have hu := (Int.ediv_emod_unique (a := N1 * 18446744073709551616 + N0) (r := (R * 4294967296 + N0 % 4294967296) % Y) (q := Q * 4294967296 + (R * 4294967296 + N0 % 4294967296) / Y) (b := Y) (by omega)).2 ⟨by
    rw [Int.mul_add, ← Int.mul_assoc, Int.mul_comm Y Q]
    generalize Q * Y = z1 at *
    generalize Y * ((R * 4294967296 + N0 % 4294967296) / Y) = z2 at *
    omega, v0, v1⟩
  rw [hu.1, hu.2]
theorem Div64_eq (hi lo y : Int) (h0 : 0 ≤ hi) (h1 : hi < y) (l0 : 0 ≤ lo) (l1 : lo < 18446744073709551616) (y1 : y < 18446744073709551616) :
    bits_Div64.f 20 hi lo y = some ((hi * 18446744073709551616 + lo) / y, (hi * 18446744073709551616 + lo) % y) := by
  unfold bits_Div64.f
  rw [if_neg (by omega), if_neg (by omega)]
  by_cases hz : hi = 0
  · subst hz
    have := Int.ediv_le_self y l0
    have h2 : 0 ≤ lo / y := Int.ediv_nonneg l0 (by omega)
    rw [if_pos rfl, Int.tdiv_eq_ediv_of_nonneg l0, Int.tmod_eq_emod_of_nonneg l0, Int.zero_mul, Int.zero_add, mod64]
    congr 2
    omega
  · rw [if_neg hz]
    have hy : (y.toNat : Int) = y := by omega
    have hb := bl_spec y.toNat (by omega)
    have hb2 := bl_le y.toNat (by omega)
    obtain ⟨s, hs⟩ : ∃ s : Nat, bl y.toNat + s = 64 := ⟨64 - bl y.toNat, by omega⟩
    unfold bits_LeadingZeros64.f bits_Len64.f
    rw [if_pos (by omega)]
    simp only [Option.bind_some]
    have w1 : wrap64 (64 - ((bl y.toNat : Nat) : Int)) = (s : Int) := by unfold wrap64; omega
    have w2 : IntKind.u64.wrap (s : Int) = s := by rw [mod64]; omega
    have w3 : IntKind.u64.wrap (64 - (s : Int)) = ((64 - s : Nat) : Int) := by rw [mod64]; omega
    rw [w1, w2, w3, if_pos (by omega), if_pos (by omega)]
    have hp : (0 : Int) < 2 ^ s := Int.pow_pos (by omega)
    have hpow : (2 : Int) ^ bl y.toNat * 2 ^ s = 18446744073709551616 := by rw [← Int.pow_add, hs]; rfl
    have hpow2 : (2 : Int) ^ (bl y.toNat - 1) * 2 ^ s = 9223372036854775808 := by rw [← Int.pow_add, show bl y.toNat - 1 + s = 63 by omega]; rfl
    have hlo : (2 : Int) ^ (bl y.toNat - 1) ≤ y := by
      have h := hb.2.1
      have : ((2 ^ (bl y.toNat - 1) : Nat) : Int) ≤ (y.toNat : Int) := by exact_mod_cast h
      rw [hy] at this
      simpa using this
    have hhi : y < (2 : Int) ^ bl y.toNat := by
      have h := hb.2.2
      have : (y.toNat : Int) < ((2 ^ bl y.toNat : Nat) : Int) := by exact_mod_cast h
      rw [hy] at this
      simpa using this
    have Y0 : 9223372036854775808 ≤ y * 2 ^ s := by rw [← hpow2]; exact Int.mul_le_mul_of_nonneg_right hlo (by omega)
    have Y1 : y * 2 ^ s < 18446744073709551616 := by rw [← hpow]; exact Int.mul_lt_mul_of_pos_right hhi hp
    have sh1 : ∀ x : Int, shl .u64 x (s : Int) = (x * 2 ^ s) % 18446744073709551616 := by
      intro x
      unfold shl
      rw [Int.toNat_natCast, Nat.min_eq_left (by show s ≤ 64; omega), mod64]
    have hH : hi * 2 ^ s < 18446744073709551616 := by
      have := Int.mul_lt_mul_of_pos_right h1 hp
      omega
    have hH0 : 0 ≤ hi * 2 ^ s := Int.mul_nonneg h0 (by omega)
    have hL0 : 0 ≤ lo * 2 ^ s := Int.mul_nonneg l0 (by omega)
    have hlo2 : lo * 2 ^ s / 18446744073709551616 = lo / 2 ^ (64 - s) := by
      have h64 : (18446744073709551616 : Int) = 2 ^ (64 - s) * 2 ^ s := by rw [← Int.pow_add, show 64 - s + s = 64 by omega]; rfl
      rw [h64]
      exact Int.mul_ediv_mul_of_pos_left _ _ hp
    have sh2 : shr .u64 lo ((64 - s : Nat) : Int) = lo * 2 ^ s / 18446744073709551616 := by
      unfold shr
      rw [Int.toNat_natCast, Nat.min_eq_left (by show 64 - s ≤ 64; omega), hlo2]
    have hL1 : lo * 2 ^ s / 18446744073709551616 < 2 ^ s := by
      refine (Int.ediv_lt_iff_lt_mul (by omega)).2 ?_
      rw [Int.mul_comm (2 ^ s)]
      exact Int.mul_lt_mul_of_pos_right l1 hp
    have hLn : 0 ≤ lo * 2 ^ s / 18446744073709551616 := Int.ediv_nonneg hL0 (by omega)
    have hg : (2 : Int) ^ s ≤ y * 2 ^ s := by
      have := Int.mul_le_mul_of_nonneg_right (a := 1) (b := y) (c := 2 ^ s) (by omega) (by omega)
      omega
    have hor : bits .or .u64 (hi * 2 ^ s) (lo * 2 ^ s / 18446744073709551616) = hi * 2 ^ s + lo * 2 ^ s / 18446744073709551616 := by
      refine bits_join .u64 64 (by decide) (fun n h₀ h₁ => by rw [mod64]; have : (2 : Int) ^ 64 = 18446744073709551616 := rfl; omega) s _ _ hH0 (Int.mul_emod_left _ _) ?_ hLn hL1 ?_
      · exact hH
      · have : (2 : Int) ^ 64 = 18446744073709551616 := rfl
        omega
    have hYs : (y * 2 ^ s) % 18446744073709551616 = y * 2 ^ s := Int.emod_eq_of_lt (by omega) Y1
    have hHs : (hi * 2 ^ s) % 18446744073709551616 = hi * 2 ^ s := Int.emod_eq_of_lt hH0 hH
    rw [sh1 y, sh1 hi, sh1 lo, sh2, hYs, hHs, hor, if_neg (by omega)]
    have hN1 : hi * 2 ^ s + lo * 2 ^ s / 18446744073709551616 < y * 2 ^ s := by
      have h2 : (hi + 1) * 2 ^ s ≤ y * 2 ^ s := Int.mul_le_mul_of_nonneg_right (by omega) (by omega)
      rw [Int.add_mul, Int.one_mul] at h2
      omega
    rw [Div64_norm (y * 2 ^ s) (s : Int) (hi * 2 ^ s + lo * 2 ^ s / 18446744073709551616) (lo * 2 ^ s % 18446744073709551616) (by omega) Y0 Y1 (by omega) hN1 (by omega) (by omega)]
    have hN : (hi * 2 ^ s + lo * 2 ^ s / 18446744073709551616) * 18446744073709551616 + lo * 2 ^ s % 18446744073709551616 = (hi * 18446744073709551616 + lo) * 2 ^ s := by
      rw [Int.add_mul (hi * 18446744073709551616)]
      rw [show hi * 18446744073709551616 * 2 ^ s = hi * 2 ^ s * 18446744073709551616 by rw [Int.mul_assoc, Int.mul_comm 18446744073709551616, ← Int.mul_assoc]]
      omega
    rw [hN, Int.mul_ediv_mul_of_pos_left _ _ hp, Int.mul_comm _ (2 ^ s), Int.mul_comm y, Int.mul_emod_mul_of_pos _ _ hp]
    congr 2
    unfold shr
    rw [Int.toNat_natCast, Nat.min_eq_left (by show s ≤ 64; omega), Int.mul_ediv_cancel_left _ (by omega)]

def dg (p0 p1 : Int) (k : Nat) : Int := match k with | 0 => p0 / 4294967296 | 1 => bits .and .u64 p0 4294967295 | 2 => p1 / 4294967296 | _ => bits .and .u64 p1 4294967295
def qz (Q : Nat → Int) (j k : Nat) : Int := if j < k then Q j else 0
def DivInv (p0 p1 d : Int) (L Q : Nat → Int) (w : World) (a' : Act) (w' : World) : Prop :=
  ∃ (k : Nat) (u10 u11 u25 u26 u27 u28 u29 u30 u31 u32 u33 u34 u35 u36 u37 u38 u39 u40 u41 u42 u43 u44 u45 : Value), 1 ≤ k ∧ k ≤ 4 ∧ a' = { tmps := #[.agg #[.int .u64 p0, .int .u64 p1], .int .u64 d, .pointer (some ⟨w.heap.size, 0, none⟩), undef, .pointer (some ⟨w.heap.size + 1, 0, none⟩), .bool false, .pointer (some ⟨w.heap.size + 1 + 1, 0, none⟩), .pointer (some ⟨w.heap.size + 1 + 1 + 1, 0, none⟩), .int .u64 (L k), .int .i64 (k : Int), u10, u11, .pointer (some ⟨w.heap.size, 0, none⟩), .int .u64 p0, .int .u64 (p0 / 4294967296), .pointer (some ⟨w.heap.size, 0, none⟩), .int .u64 p0, .int .u64 (bits .and .u64 p0 4294967295), .pointer (some ⟨w.heap.size, 1, none⟩), .int .u64 p1, .int .u64 (p1 / 4294967296), .pointer (some ⟨w.heap.size, 1, none⟩), .int .u64 p1, .int .u64 (bits .and .u64 p1 4294967295), .agg #[.int .u64 (p0 / 4294967296), .int .u64 (bits .and .u64 p0 4294967295), .int .u64 (p1 / 4294967296), .int .u64 (bits .and .u64 p1 4294967295)], u25, u26, u27, u28, u29, u30, u31, u32, u33, u34, u35, u36, u37, u38, u39, u40, u41, u42, u43, u44, u45, undef, undef, undef, undef, undef, undef, undef, undef, undef, undef, undef, undef, undef, undef, undef], defers := [] } ∧
    w'.heap[w.heap.size + 1 + 1]? = some (.cells #[.int .u64 (p0 / 4294967296), .int .u64 (bits .and .u64 p0 4294967295), .int .u64 (p1 / 4294967296), .int .u64 (bits .and .u64 p1 4294967295)] 78 (0, 0)) ∧
    w'.heap[w.heap.size + 1 + 1 + 1]? = some (.cells #[.int .u64 (qz Q 0 k), .int .u64 (qz Q 1 k), .int .u64 (qz Q 2 k), .int .u64 (qz Q 3 k)] 78 (0, 0)) ∧
    w'.heap[w.heap.size + 1]? = some (.cells #[.int .u64 0, .int .u64 0] 69 (0, 0)) ∧ Below w.heap.size w w'
set_option maxHeartbeats 4000000 in
set_option maxRecDepth 100000 in
theorem divided_walk (p0 p1 d : Int) (L Q : Nat → Int) (r0 r1 : Int) (rb : Bool) (w : World) (hL0 : L 0 = 0) (hs : ∀ k, k < 4 → bits_Div64.f 20 (L k / 4294967296) (bits .or .u64 (IntKind.u64.wrap (L k * 4294967296)) (dg p0 p1 k)) d = some (Q k, L (k + 1)))
    (hr0 : bits .or .u64 (IntKind.u64.wrap (Q 0 * 4294967296)) (Q 1) = r0) (hr1 : bits .or .u64 (IntKind.u64.wrap (Q 2 * 4294967296)) (Q 3) = r1) (hrb : decide (0 < L 4) = rb) :
    Calls Try.prog 51 #[.agg #[.int .u64 p0, .int .u64 p1], .int .u64 d] w fun e w' => e = .returned (.tuple #[.agg #[.int .u64 r0, .int .u64 r1], .bool rb]) ∧ Below w.heap.size w w' := by
  have hu34 := Try.underlying69
  have hu47 := Try.underlying78
  have Hs := Aside0.mk hs; clear hs
  have HL0 := Aside0.mk hL0; clear hL0
  have H0 := Aside0.mk hr0; clear hr0
  have H1 := Aside0.mk hr1; clear hr1
  have Hb := Aside0.mk hrb; clear hrb
  go_enter Try.func51, Try.ntmps51
  go_wp2_with fail
  refine wp_scope_jumps 0 (DivInv p0 p1 d L Q w) (fun a' _ => 4 - (intOf (a'.tmps.getD 9 undef)).toNat) rfl ?_ ?_
  · have hs0 : bits_Div64.f 20 0 (bits .or .u64 0 (p0 / 4294967296)) d = some (Q 0, L (0 + 1)) := by
      have h := Hs.out 0 (by omega)
      rw [HL0.out] at h
      exact h
    have Hs0 := Aside0.mk hs0
    clear hs0
    go_wp2_with fail
    go_step3
    go_wp2_with fail
    refine (bits_Div64.calls 20 _ _ _ (Q 0) (L (0 + 1)) _ Hs0.out).mono ?_
    rintro e w2 ⟨rfl, ⟨n, rfl⟩⟩
    go_wp2_with fail
    go_step3
    refine ⟨rfl, 1, _, _, _, _, _, _, _, _, _, _, _, _, _, _, _, _, _, _, _, _, _, _, _, by omega, by omega, rfl, ?_, ?_, ?_, ?_⟩
    · refine blk_far (blk_drewN (blk_alloc ?_ _) n) (by simp) _
      have := blk_new ((w.alloc (.cells #[.int .u64 p0, .int .u64 p1] 69)).alloc (.cells #[.int .u64 0, .int .u64 0] 69)) (.cells #[.int .u64 (p0 / 4294967296), .int .u64 (bits .and .u64 p0 4294967295), .int .u64 (p1 / 4294967296), .int .u64 (bits .and .u64 p1 4294967295)] 78)
      simp only [World.size_alloc] at this
      exact this
    · refine blk_put (cs := #[.int .u64 0, .int .u64 0, .int .u64 0, .int .u64 0]) (blk_drewN ?_ n) 0 (.int .u64 (Q 0)) rfl
      have := blk_new (((w.alloc (.cells #[.int .u64 p0, .int .u64 p1] 69)).alloc (.cells #[.int .u64 0, .int .u64 0] 69)).alloc (.cells #[.int .u64 (p0 / 4294967296), .int .u64 (bits .and .u64 p0 4294967295), .int .u64 (p1 / 4294967296), .int .u64 (bits .and .u64 p1 4294967295)] 78)) (.cells #[.int .u64 0, .int .u64 0, .int .u64 0, .int .u64 0] 78)
      simp only [World.size_alloc] at this
      exact this
    · refine blk_far (blk_drewN (blk_alloc (blk_alloc ?_ _) _) n) (by simp) _
      have := blk_new (w.alloc (.cells #[.int .u64 p0, .int .u64 p1] 69)) (.cells #[.int .u64 0, .int .u64 0] 69)
      simp only [World.size_alloc] at this
      exact this
    · exact (pw_below_drewN (below_alloc (below_alloc (below_alloc (below_alloc (Below.refl _ _) _) _) _) _) n).setCell (show w.heap.size ≤ w.heap.size + 1 + 1 + 1 by omega) _
  · rintro a' w' ⟨k, u10, u11, u25, u26, u27, u28, u29, u30, u31, u32, u33, u34, u35, u36, u37, u38, u39, u40, u41, u42, u43, u44, u45, hk0, hk1, rfl, hD, hO, hR, hB⟩
    have HD := Aside0.mk hD
    have HO := Aside0.mk hO
    have HR := Aside0.mk hR
    have HB := Aside0.mk hB
    have hsz : Aside0 (w.heap.size ≤ w.heap.size + 1 + 1 + 1) := ⟨by omega⟩
    obtain ⟨d0, d1, d2, d3, _, _, _, _⟩ := cells4d hD
    obtain ⟨o0, o1, o2, o3, f0, f1, f2, f3⟩ := cells4d hO
    obtain ⟨r0c, r1c, g0, g1⟩ := cells2d hR
    clear hD hO hR hB
    obtain rfl | rfl | rfl | rfl : k = 1 ∨ k = 2 ∨ k = 3 ∨ k = 4 := by omega
    · have Hk : Aside0 (bits_Div64.f 20 (L 1 / 4294967296) (bits .or .u64 (IntKind.u64.wrap (L 1 * 4294967296)) (bits .and .u64 p0 4294967295)) d = some (Q 1, L 2)) := ⟨Hs.out 1 (by omega)⟩
      go_wp2_with fail
      refine (bits_Div64.calls 20 _ _ _ (Q 1) (L 2) _ Hk.out).mono ?_
      rintro e w2 ⟨rfl, ⟨n, rfl⟩⟩
      go_wp2_with fail
      go_step3
      refine ⟨rfl, ⟨2, _, _, _, _, _, _, _, _, _, _, _, _, _, _, _, _, _, _, _, _, _, _, _, by omega, by omega, rfl, blk_far (blk_drewN HD.out n) (by simp) _, blk_put (blk_drewN HO.out n) 1 _ rfl, blk_far (blk_drewN HR.out n) (by simp) _, (pw_below_drewN HB.out n).setCell hsz.out _⟩, by simp [intOf]⟩
    · have Hk : Aside0 (bits_Div64.f 20 (L 2 / 4294967296) (bits .or .u64 (IntKind.u64.wrap (L 2 * 4294967296)) (p1 / 4294967296)) d = some (Q 2, L 3)) := ⟨Hs.out 2 (by omega)⟩
      go_wp2_with fail
      refine (bits_Div64.calls 20 _ _ _ (Q 2) (L 3) _ Hk.out).mono ?_
      rintro e w2 ⟨rfl, ⟨n, rfl⟩⟩
      go_wp2_with fail
      go_step3
      refine ⟨rfl, ⟨3, _, _, _, _, _, _, _, _, _, _, _, _, _, _, _, _, _, _, _, _, _, _, _, by omega, by omega, rfl, blk_far (blk_drewN HD.out n) (by simp) _, blk_put (blk_drewN HO.out n) 2 _ rfl, blk_far (blk_drewN HR.out n) (by simp) _, (pw_below_drewN HB.out n).setCell hsz.out _⟩, by simp [intOf]⟩
    · have Hk : Aside0 (bits_Div64.f 20 (L 3 / 4294967296) (bits .or .u64 (IntKind.u64.wrap (L 3 * 4294967296)) (bits .and .u64 p1 4294967295)) d = some (Q 3, L 4)) := ⟨Hs.out 3 (by omega)⟩
      go_wp2_with fail
      refine (bits_Div64.calls 20 _ _ _ (Q 3) (L 4) _ Hk.out).mono ?_
      rintro e w2 ⟨rfl, ⟨n, rfl⟩⟩
      go_wp2_with fail
      go_step3
      refine ⟨rfl, ⟨4, _, _, _, _, _, _, _, _, _, _, _, _, _, _, _, _, _, _, _, _, _, _, _, by omega, by omega, rfl, blk_far (blk_drewN HD.out n) (by simp) _, blk_put (blk_drewN HO.out n) 3 _ rfl, blk_far (blk_drewN HR.out n) (by simp) _, (pw_below_drewN HB.out n).setCell hsz.out _⟩, by simp [intOf]⟩
    · go_wp2_with fail
      simp only [Exit.jump]
      refine bodyPost_ret (results_ct rfl _ _ (w.heap.size + 1) 69 #[.int .u64 r0, .int .u64 r1] (0, 0) _ rfl ?_ Try.underlying69 rfl (by kernel_rfl)) rfl ?_
      · refine blk_put (cs := #[.int .u64 r0, .int .u64 0]) (blk_put (cs := #[.int .u64 0, .int .u64 0]) HR.out 0 _ ?_) 1 _ ?_
        · rw [← H0.out]; rfl
        · rw [← H1.out]; rfl
      · refine ⟨?_, (HB.out.setCell (show w.heap.size ≤ w.heap.size + 1 by omega) _).setCell (show w.heap.size ≤ w.heap.size + 1 by omega) _⟩
        rw [← Hb.out]
        rfl
theorem dg_range (p0 p1 : Int) (h0 : 0 ≤ p0) (h1 : p0 < 18446744073709551616) (g0 : 0 ≤ p1) (g1 : p1 < 18446744073709551616) (k : Nat) : 0 ≤ dg p0 p1 k ∧ dg p0 p1 k < 4294967296 := by
  unfold dg
  rcases k with _ | _ | _ | k
  · simp only; omega
  · simp only [low32 p0 h0 h1]; omega
  · simp only; omega
  · simp only [low32 p1 g0 g1]; omega
theorem digit_step (L D d : Int) (L0 : 0 ≤ L) (L1 : L < d) (d1 : d < 18446744073709551616) (D0 : 0 ≤ D) (D1 : D < 4294967296) :
    bits_Div64.f 20 (L / 4294967296) (bits .or .u64 (IntKind.u64.wrap (L * 4294967296)) D) d = some ((L * 4294967296 + D) / d, (L * 4294967296 + D) % d) := by
  rw [or32 _ D (by rw [mod64]; omega) (by rw [mod64]; omega) (by rw [mod64]; omega) D0 D1]
  rw [Div64_eq _ _ d (by omega) (by omega) (by rw [mod64]; omega) (by rw [mod64]; omega) d1]
  have e : L / 4294967296 * 18446744073709551616 + (IntKind.u64.wrap (L * 4294967296) + D) = L * 4294967296 + D := by rw [mod64]; omega
  rw [e]
def lf (p0 p1 d : Int) : Nat → Int
  | 0 => 0
  | k + 1 => (lf p0 p1 d k * 4294967296 + dg p0 p1 k) % d
def qt (p0 p1 d : Int) (k : Nat) : Int := (lf p0 p1 d k * 4294967296 + dg p0 p1 k) / d
theorem lf_range (p0 p1 d : Int) (d0 : 1 ≤ d) (k : Nat) : 0 ≤ lf p0 p1 d k ∧ lf p0 p1 d k < d := by
  cases k with
  | zero => unfold lf; omega
  | succ k => unfold lf; exact ⟨Int.emod_nonneg _ (by omega), Int.emod_lt_of_pos _ (by omega)⟩
theorem divided_calls (p0 p1 d : Int) (w : World) (h0 : 0 ≤ p0) (h1 : p0 < 18446744073709551616) (g0 : 0 ≤ p1) (g1 : p1 < 18446744073709551616) (d0 : 1 ≤ d) (d1 : d < 18446744073709551616) :
    Calls Try.prog 51 #[.agg #[.int .u64 p0, .int .u64 p1], .int .u64 d] w fun e w' => e = .returned (.tuple #[.agg #[.int .u64 ((p0 * 18446744073709551616 + p1) / d / 18446744073709551616), .int .u64 ((p0 * 18446744073709551616 + p1) / d % 18446744073709551616)], .bool (decide (0 < (p0 * 18446744073709551616 + p1) % d))]) ∧ Below w.heap.size w w' := by
  have hl := lf_range p0 p1 d d0
  have hd := dg_range p0 p1 h0 h1 g0 g1
  have hq : ∀ k, 0 ≤ qt p0 p1 d k ∧ qt p0 p1 d k < 4294967296 ∧ d * qt p0 p1 d k + lf p0 p1 d (k + 1) = lf p0 p1 d k * 4294967296 + dg p0 p1 k := by
    intro k
    have l := hl k
    have g := hd k
    refine ⟨Int.ediv_nonneg (by omega) (by omega), (Int.ediv_lt_iff_lt_mul (by omega)).2 (by omega), ?_⟩
    show d * ((lf p0 p1 d k * 4294967296 + dg p0 p1 k) / d) + (lf p0 p1 d k * 4294967296 + dg p0 p1 k) % d = _
    exact Int.mul_ediv_add_emod _ _
  have u := (Int.ediv_emod_unique (a := p0 * 18446744073709551616 + p1) (r := lf p0 p1 d 4) (q := (qt p0 p1 d 0 * 4294967296 + qt p0 p1 d 1) * 18446744073709551616 + (qt p0 p1 d 2 * 4294967296 + qt p0 p1 d 3)) (b := d) (by omega)).2 ⟨by
    have e0 : d * qt p0 p1 d 0 + lf p0 p1 d 1 = lf p0 p1 d 0 * 4294967296 + dg p0 p1 0 := (hq 0).2.2
    have e1 : d * qt p0 p1 d 1 + lf p0 p1 d 2 = lf p0 p1 d 1 * 4294967296 + dg p0 p1 1 := (hq 1).2.2
    have e2 : d * qt p0 p1 d 2 + lf p0 p1 d 3 = lf p0 p1 d 2 * 4294967296 + dg p0 p1 2 := (hq 2).2.2
    have e3 : d * qt p0 p1 d 3 + lf p0 p1 d 4 = lf p0 p1 d 3 * 4294967296 + dg p0 p1 3 := (hq 3).2.2
    have z0 : lf p0 p1 d 0 = 0 := rfl
    have c0 : dg p0 p1 0 = p0 / 4294967296 := rfl
    have c1 : dg p0 p1 1 = p0 % 4294967296 := low32 p0 h0 h1
    have c2 : dg p0 p1 2 = p1 / 4294967296 := rfl
    have c3 : dg p0 p1 3 = p1 % 4294967296 := low32 p1 g0 g1
    rw [z0, c0] at e0
    rw [c1] at e1
    rw [c2] at e2
    rw [c3] at e3
    have ex : d * ((qt p0 p1 d 0 * 4294967296 + qt p0 p1 d 1) * 18446744073709551616 + (qt p0 p1 d 2 * 4294967296 + qt p0 p1 d 3)) = (d * qt p0 p1 d 0 * 4294967296 + d * qt p0 p1 d 1) * 18446744073709551616 + (d * qt p0 p1 d 2 * 4294967296 + d * qt p0 p1 d 3) := by
      simp only [Int.mul_add, Int.add_mul, Int.mul_assoc]
    rw [ex]
    generalize d * qt p0 p1 d 0 = y0 at *
    generalize d * qt p0 p1 d 1 = y1 at *
    generalize d * qt p0 p1 d 2 = y2 at *
    generalize d * qt p0 p1 d 3 = y3 at *
    omega, (hl 4).1, (hl 4).2⟩
  rw [u.1, u.2]
  have q0 := hq 0
  have q1 := hq 1
  have q2 := hq 2
  have q3 := hq 3
  refine divided_walk p0 p1 d (lf p0 p1 d) (qt p0 p1 d) _ _ _ w rfl (fun k hk => digit_step _ _ d (hl k).1 (hl k).2 d1 (hd k).1 (hd k).2) ?_ ?_ rfl
  · rw [or32 _ _ (by rw [mod64]; omega) (by rw [mod64]; omega) (by rw [mod64]; omega) q1.1 q1.2.1, mod64]
    omega
  · rw [or32 _ _ (by rw [mod64]; omega) (by rw [mod64]; omega) (by rw [mod64]; omega) q3.1 q3.2.1, mod64]
    omega

theorem add64_law (x : Int) (hx : 0 ≤ x) (w : World) : (callFunc 52 #[.int .u64 x, .int .u64 1, .int .u64 0]).run Try.prog w = .ok (.value (.tuple #[.int .u64 ((x + 1) % 18446744073709551616), .int .u64 ((x + 1) / 18446744073709551616)])) w := by
  rw [run_callFunc_extern Try.func52 (by kernel_rfl) (by kernel_rfl) (by kernel_rfl) (e := add64Entry) (by kernel_rfl), run_add64 x 1 0 hx (by omega) (by omega) (by omega)]
  simp only [Result.andThen, Int.add_zero]
set_option maxHeartbeats 4000000 in
set_option maxRecDepth 100000 in
theorem Scale_walk1 (a b d sa sb h l q0 q1 r1 : Int) (below left r2 : Bool) (w : World) (hd : decide (d < 1) = false) (hsa : exact_size.f a = some sa) (hsb : exact_size.f b = some sb) (hm : bits_Mul64.f sa sb = some (h, l)) (hb : decide (bits .xor .i64 a b < 0) = below)
    (hdiv : ∀ w : World, Calls Try.prog 51 #[.agg #[.int .u64 h, .int .u64 l], .int .u64 (IntKind.u64.wrap d)] w fun e w' => e = .returned (.tuple #[.agg #[.int .u64 q0, .int .u64 q1], .bool left]) ∧ Below w.heap.size w w')
    (h0 : 0 ≤ q0) (g0 : 0 ≤ q1) (g1 : q1 < 18446744073709551616) (hc : IntKind.u64.wrap (q0 + (q1 + 1) / 18446744073709551616) = q0 + (q1 + 1) / 18446744073709551616)
    (hs : sgn (q0 * 18446744073709551616 + q1 + if (below && left) = true then 1 else 0) below = (r1, r2)) :
    Calls Try.prog 41 #[.int .i64 a, .int .i64 b, .int .i64 d] w fun e w' => e = .returned (.tuple #[.int .i64 r1, .bool r2]) ∧ Below w.heap.size w w' := by
  have hu34 := Try.underlying69
  have Ha := Aside0.mk hsa; clear hsa
  have Hb := Aside0.mk hsb; clear hsb
  have Hm := Aside0.mk hm; clear hm
  have Hs := Aside0.mk hs; clear hs
  have Hd := Aside0.mk hdiv; clear hdiv
  have Hc := Aside0.mk hc; clear hc
  have ha := add64_law q1 g0
  cases below <;> cases left
  all_goals
    go_enter Try.func41, Try.ntmps41
    go_wp2_with fail
    refine (exact_size.calls a sa _ Ha.out).mono ?_
    rintro e w1 ⟨rfl, hb1⟩
    go_wp2_with fail
    refine (exact_size.calls b sb _ Hb.out).mono ?_
    rintro e w2 ⟨rfl, hb2⟩
    go_wp2_with fail
    refine (bits_Mul64.calls sa sb h l _ Hm.out).mono ?_
    rintro e w3 ⟨rfl, ⟨n3, rfl⟩⟩
    go_wp2_with fail
    refine (Hd.out _).mono ?_
    rintro e w4 ⟨rfl, hb4⟩
    have hB : Below w.heap.size w w4 := below_step (pw_below_drewN (below_step hb1 hb2) n3) hb4
    clear hb1 hb2 hb4
    go_wp2_with fail
  · refine (signed_calls q0 q1 r1 _ r2 _ h0 g0 g1 (by have := Hs.out; simpa using this)).mono ?_
    rintro e w5 ⟨rfl, hb5⟩
    go_wp2_with fail
    go_ret2
    exact ⟨rfl, below_step (below_alloc hB _) hb5⟩
  · refine (signed_calls q0 q1 r1 _ r2 _ h0 g0 g1 (by have := Hs.out; simpa using this)).mono ?_
    rintro e w5 ⟨rfl, hb5⟩
    go_wp2_with fail
    go_ret2
    exact ⟨rfl, below_step (below_alloc hB _) hb5⟩
  · refine (signed_calls q0 q1 r1 _ r2 _ h0 g0 g1 (by have := Hs.out; simpa using this)).mono ?_
    rintro e w5 ⟨rfl, hb5⟩
    go_wp2_with fail
    go_ret2
    exact ⟨rfl, below_step (below_alloc hB _) hb5⟩
  · rw [Hc.out]
    refine (signed_calls (q0 + (q1 + 1) / 18446744073709551616) ((q1 + 1) % 18446744073709551616) r1 true r2 _ (by omega) (by omega) (by omega) (by
      have h := Hs.out
      simp only [Bool.and_true, Bool.and_self, if_true] at h
      rw [← h]
      congr 1
      omega)).mono ?_
    rintro e w5 ⟨rfl, hb5⟩
    go_wp2_with fail
    go_ret2
    exact ⟨rfl, below_step (below_alloc hB _) hb5⟩
def exact_Scale.f (a0 : Int) (a1 : Int) (a2 : Int) : Option (Int × Bool) := if a2 < 1 then some (0, false) else if In64 a0 ∧ In64 a1 ∧ In64 a2 then some (fits (a0 * a1 / a2)) else none
set_option maxHeartbeats 4000000 in
set_option maxRecDepth 100000 in
theorem xScale_none (a b d : Int) (w : World) (hd : decide (d < 1) = true) :
    Calls Try.prog 41 #[.int .i64 a, .int .i64 b, .int .i64 d] w fun e w' => e = .returned (.tuple #[.int .i64 0, .bool false]) ∧ Below w.heap.size w w' := by
  go_enter Try.func41, Try.ntmps41
  go_wp2
  go_ret2
  exact ⟨rfl, Below.refl _ _⟩
theorem exact_Scale.calls (a0 : Int) (a1 : Int) (a2 : Int) (r1 : Int) (r2 : Bool) (w : World) (h : exact_Scale.f a0 a1 a2 = some (r1, r2)) :
    Calls Try.prog 41 #[.int .i64 a0, .int .i64 a1, .int .i64 a2] w fun e w' => e = .returned (.tuple #[.int .i64 r1, .bool r2]) ∧ Below w.heap.size w w' := by
  unfold exact_Scale.f at h
  by_cases hd : a2 < 1
  · rw [if_pos hd] at h
    simp only [Option.some.injEq, Prod.mk.injEq] at h
    obtain ⟨rfl, rfl⟩ := h
    exact xScale_none a0 a1 a2 w (by simpa using hd)
  · rw [if_neg hd] at h
    by_cases hi : In64 a0 ∧ In64 a1 ∧ In64 a2
    · rw [if_pos hi] at h
      have h := Option.some.inj h
      have ha := hi.1.def
      have hb := hi.2.1.def
      have hc := hi.2.2.def
      obtain ⟨P, hP, hP0, hP1⟩ := signs a0 a1
      have hP2 := abs_bound a0 a1 hi.1 hi.2.1
      have hm := Mul64_eq (if a0 < 0 then -a0 else a0) (if a1 < 0 then -a1 else a1) (by split <;> omega) (by split <;> omega) (by split <;> omega) (by split <;> omega)
      rw [hP] at hm hP2
      have hu : IntKind.u64.wrap a2 = a2 := by rw [mod64]; omega
      have hdiv := fun w => divided_calls (P / 18446744073709551616) (P % 18446744073709551616) a2 w (by omega) (by omega) (by omega) (by omega) (by omega) (by omega)
      rw [show P / 18446744073709551616 * 18446744073709551616 + P % 18446744073709551616 = P by omega] at hdiv
      have q0 : 0 ≤ P / a2 := Int.ediv_nonneg hP0 (by omega)
      have q1 : P / a2 ≤ P := Int.ediv_le_self _ hP0
      have hdm := Int.mul_ediv_add_emod P a2
      have r0 := Int.emod_nonneg P (b := a2) (by omega)
      have r1' := Int.emod_lt_of_pos P (b := a2) (by omega)
      refine Scale_walk1 a0 a1 a2 _ _ _ _ _ _ r1 _ (decide (0 < P % a2)) r2 w (decide_eq_false hd) (xsize_eq a0 ha.1 ha.2) (xsize_eq a1 hb.1 hb.2) hm (xbelow a0 a1 ha.1 ha.2 hb.1 hb.2) (by rw [hu]; exact hdiv) (by omega) (by omega) (by omega) (by rw [mod64]; omega) ?_
      rw [← h, hP1, show P / a2 / 18446744073709551616 * 18446744073709551616 + P / a2 % 18446744073709551616 = P / a2 by omega]
      generalize hq : P / a2 = q at *
      generalize hr : P % a2 = r at *
      cases hbel : (decide (a0 < 0) != decide (a1 < 0)) with
      | false => simp only [Bool.false_and, Bool.false_eq_true, if_false, Int.add_zero, sgn, hq]
      | true =>
        by_cases hz : 0 < r
        · have hfl : -P / a2 = -(q + 1) := by
            refine ((Int.ediv_emod_unique (a := -P) (r := a2 - r) (q := -(q + 1)) (b := a2) (by omega)).2 ⟨?_, by omega, by omega⟩).1
            rw [Int.mul_neg, Int.mul_add, Int.mul_one]
            omega
          simp only [hz, decide_true, Bool.and_self, if_true, sgn, hfl]
        · have hfl : -P / a2 = -q := by
            refine ((Int.ediv_emod_unique (a := -P) (r := 0) (q := -q) (b := a2) (by omega)).2 ⟨?_, by omega, by omega⟩).1
            rw [Int.mul_neg]
            omega
          simp only [hz, decide_false, Bool.and_false, Bool.false_eq_true, if_false, if_true, sgn, hfl, Int.add_zero]
    · rw [if_neg hi] at h
      exact absurd h (by simp)

/-! ### timing_timed_drift: function 31 -/
def timing_timed_drift.f (a0_0 : Int) (a0_1 : Int) (a0_2 : Int) (a0_3 : Int) (a0_4 : Int) : Option (Int) := (timing_timed_quanta.f a0_0 a0_1 a0_2 a0_3 a0_4).bind fun t127 => ((exact_Scale.f 1000000 (mn a0_2 a0_3) (wrap64 (2 * (wrap64 ((wrap64 (13 * t127)) - a0_3))))).bind fun bt128 => ((exact_Scale.f 1000000 a0_4 (wrap64 (20 * t127))).bind fun bt130 => (some (mn bt128.1 bt130.1))))
set_option maxHeartbeats 8000000 in
set_option maxRecDepth 100000 in
theorem timing_timed_drift.calls (a0_0 : Int) (a0_1 : Int) (a0_2 : Int) (a0_3 : Int) (a0_4 : Int) (r : Int) (w : World) (h : timing_timed_drift.f a0_0 a0_1 a0_2 a0_3 a0_4 = some r) :
    Calls Try.prog 31 #[.agg #[.int .i64 a0_0, .int .i64 a0_1, .int .i64 a0_2, .int .i64 a0_3, .int .i64 a0_4]] w fun e w' => e = .returned (.int .i64 r) ∧ Below w.heap.size w w' := by
  have hu39 := Try.underlying39
  have HB := Aside0.mk (Below.refl w.heap.size w)
  have H : ((timing_timed_quanta.f a0_0 a0_1 a0_2 a0_3 a0_4).bind fun t127 => ((exact_Scale.f 1000000 (mn a0_2 a0_3) (wrap64 (2 * (wrap64 ((wrap64 (13 * t127)) - a0_3))))).bind fun bt128 => ((exact_Scale.f 1000000 a0_4 (wrap64 (20 * t127))).bind fun bt130 => (some (mn bt128.1 bt130.1))))) = some r := h
  clear h
  replace H := Option.bind_eq_some_iff.mp H
  obtain ⟨t127, A20, H⟩ := H
  replace H : ((exact_Scale.f 1000000 (mn a0_2 a0_3) (wrap64 (2 * (wrap64 ((wrap64 (13 * t127)) - a0_3))))).bind fun bt128 => ((exact_Scale.f 1000000 a0_4 (wrap64 (20 * t127))).bind fun bt130 => (some (mn bt128.1 bt130.1)))) = some r := H
  have A2 := Aside0.mk A20
  clear A20
  obtain ⟨ji3, hji3⟩ : ∃ j_ : Int, (mn a0_2 a0_3) = j_ := ⟨_, rfl⟩
  replace H : ((exact_Scale.f 1000000 (ji3) (wrap64 (2 * (wrap64 ((wrap64 (13 * t127)) - a0_3))))).bind fun bt128 => ((exact_Scale.f 1000000 a0_4 (wrap64 (20 * t127))).bind fun bt130 => (some (mn bt128.1 bt130.1)))) = some r := by first | (rw [hji3] at H; exact H) | (simp only [hji3] at H ⊢; exact H)
  (try rw [hji3] at A2)
  have hji3_ : (if a0_3 < a0_2 then a0_3 else a0_2) = ji3 := hji3
  replace H := Option.bind_eq_some_iff.mp H
  obtain ⟨⟨t128, t129⟩, A40, H⟩ := H
  replace H : ((exact_Scale.f 1000000 a0_4 (wrap64 (20 * t127))).bind fun bt130 => (some (mn t128 bt130.1))) = some r := H
  have A4 := Aside0.mk A40
  clear A40
  replace H := Option.bind_eq_some_iff.mp H
  obtain ⟨⟨t130, t131⟩, A50, H⟩ := H
  replace H : (some (mn t128 t130)) = some r := H
  have A5 := Aside0.mk A50
  clear A50
  obtain ⟨ji6, hji6⟩ : ∃ j_ : Int, (mn t128 t130) = j_ := ⟨_, rfl⟩
  replace H : (some ji6) = some r := by first | (rw [hji6] at H; exact H) | (simp only [hji6] at H ⊢; exact H)
  (try rw [hji6] at A2)
  (try rw [hji6] at A4)
  (try rw [hji6] at A5)
  have hji6_ : (if t130 < t128 then t130 else t128) = ji6 := hji6
  obtain rfl := Option.some.inj H
  go_enter Try.func31, Try.ntmps31
  go_wp2_with (first | ((with_reducible refine gate_dst (N := 1) rfl ?_); refine box_event ?hg (N := 1) ?hd (cs := #[.int .i64 a0_0, .int .i64 a0_1, .int .i64 a0_2, .int .i64 a0_3, .int .i64 a0_4]) (t := 39) ?hr ?_; (case hd => rfl); (case hg => rfl); (case hr => first | (go_simp; done) | (go_simp; rfl)); intro gb126 hg w7 hbox hb; have n0_ := Aside0.mk (below_step (by repeat (first | (with_reducible first | exact HB.out | apply below_alloc | apply pw_below_drewN | apply below_drew1) | exact HB.out)) hb); have n1_ := Aside0.mk (hbox); have n2_ := Aside0.mk ((by rw [hg]; exact (below_size (by repeat (first | (with_reducible first | exact HB.out | apply below_alloc | apply pw_below_drewN | apply below_drew1) | exact HB.out))) : w.heap.size ≤ gb126)); have n3_ := Aside0.mk ((by rw [hg]; exact (below_size (by repeat (first | (with_reducible first | exact HB.out | apply below_alloc | apply pw_below_drewN | apply below_drew1) | exact HB.out))) : w.heap.size ≤ gb126)); clear HB; have HB := n0_; have BK126 := n1_; have GW126 := n2_; have GE126 := n3_; clear n0_ n1_ n2_ n3_; clear hb hbox hg; have hcz8_0 : w7.cell? ⟨gb126, 0, none⟩ = some (.int .i64 a0_0) := (blk_cell BK126.out 0).trans rfl; have hcz8_1 : w7.cell? ⟨gb126, 1, none⟩ = some (.int .i64 a0_1) := (blk_cell BK126.out 1).trans rfl; have hcz8_2 : w7.cell? ⟨gb126, 2, none⟩ = some (.int .i64 a0_2) := (blk_cell BK126.out 2).trans rfl; have hcz8_3 : w7.cell? ⟨gb126, 3, none⟩ = some (.int .i64 a0_3) := (blk_cell BK126.out 3).trans rfl; have hcz8_4 : w7.cell? ⟨gb126, 4, none⟩ = some (.int .i64 a0_4) := (blk_cell BK126.out 4).trans rfl; have hfz8_0 := blk_frozen BK126.out 0; have hfz8_1 := blk_frozen BK126.out 1; have hfz8_2 := blk_frozen BK126.out 2; have hfz8_3 := blk_frozen BK126.out 3; have hfz8_4 := blk_frozen BK126.out 4) | ((with_reducible refine gate_callee (f := 28) rfl ?_); refine goesL_ (some 9) rfl rfl Try.func28 (by kernel_rfl) rfl #[.agg #[.int .i64 a0_0, .int .i64 a0_1, .int .i64 a0_2, .int .i64 a0_3, .int .i64 a0_4]] rfl (by (try simp only [List.map_toArray, List.map_cons, List.map_nil]); first | done | rfl | (simp only [List.length_drop, List.length_take]; rfl)) ?_; (with_reducible refine (timing_timed_quanta.calls a0_0 a0_1 a0_2 a0_3 a0_4 t127 _ A2.out).mono ?_); rintro e w9 ⟨rfl, hb⟩; refine ⟨_, rfl, ?_⟩; have n0_ := Aside0.mk (blk_below (g := gb126) (o := .cells #[.int .i64 a0_0, .int .i64 a0_1, .int .i64 a0_2, .int .i64 a0_3, .int .i64 a0_4] 39 (0, 0)) (by (with_reducible repeat (first | refine blk_drewN ?_ _ | refine blk_drew ?_ | refine blk_alloc ?_ _)); exact BK126.out) hb); have n1_ := Aside0.mk (below_step (by repeat (first | (with_reducible first | exact HB.out | apply below_alloc | apply pw_below_drewN | apply below_drew1 | refine below_set ?_ GE126.out) | exact HB.out)) hb); clear BK126; clear HB; have BK126 := n0_; have HB := n1_; clear n0_ n1_; (try clear hb); (try clear hb2); (try clear hk); (try clear hi); have hcz10_0 : w9.cell? ⟨gb126, 0, none⟩ = some (.int .i64 a0_0) := (blk_cell BK126.out 0).trans rfl; have hcz10_1 : w9.cell? ⟨gb126, 1, none⟩ = some (.int .i64 a0_1) := (blk_cell BK126.out 1).trans rfl; have hcz10_2 : w9.cell? ⟨gb126, 2, none⟩ = some (.int .i64 a0_2) := (blk_cell BK126.out 2).trans rfl; have hcz10_3 : w9.cell? ⟨gb126, 3, none⟩ = some (.int .i64 a0_3) := (blk_cell BK126.out 3).trans rfl; have hcz10_4 : w9.cell? ⟨gb126, 4, none⟩ = some (.int .i64 a0_4) := (blk_cell BK126.out 4).trans rfl; have hfz10_0 := blk_frozen BK126.out 0; have hfz10_1 := blk_frozen BK126.out 1; have hfz10_2 := blk_frozen BK126.out 2; have hfz10_3 := blk_frozen BK126.out 3; have hfz10_4 := blk_frozen BK126.out 4) | ((with_reducible refine gate_callee (f := 41) rfl ?_); refine goesL_ (some 25) rfl rfl Try.func41 (by kernel_rfl) rfl #[.int .i64 1000000, .int .i64 ji3, .int .i64 (wrap64 (2 * (wrap64 ((wrap64 (13 * t127)) - a0_3))))] rfl (by (try simp only [List.map_toArray, List.map_cons, List.map_nil]); first | done | (simp only [hji3]; rfl) | rfl | (simp only [List.length_drop, List.length_take]; rfl)) ?_; (with_reducible refine (exact_Scale.calls 1000000 ji3 (wrap64 (2 * (wrap64 ((wrap64 (13 * t127)) - a0_3)))) t128 t129 _ A4.out).mono ?_); rintro e w11 ⟨rfl, hb⟩; refine ⟨_, rfl, ?_⟩; have n0_ := Aside0.mk (blk_below (g := gb126) (o := .cells #[.int .i64 a0_0, .int .i64 a0_1, .int .i64 a0_2, .int .i64 a0_3, .int .i64 a0_4] 39 (0, 0)) (by (with_reducible repeat (first | refine blk_drewN ?_ _ | refine blk_drew ?_ | refine blk_alloc ?_ _)); exact BK126.out) hb); have n1_ := Aside0.mk (below_step (by repeat (first | (with_reducible first | exact HB.out | apply below_alloc | apply pw_below_drewN | apply below_drew1 | refine below_set ?_ GE126.out) | exact HB.out)) hb); clear BK126; clear HB; have BK126 := n0_; have HB := n1_; clear n0_ n1_; (try clear hb); (try clear hb2); (try clear hk); (try clear hi); have hcz12_0 : w11.cell? ⟨gb126, 0, none⟩ = some (.int .i64 a0_0) := (blk_cell BK126.out 0).trans rfl; have hcz12_1 : w11.cell? ⟨gb126, 1, none⟩ = some (.int .i64 a0_1) := (blk_cell BK126.out 1).trans rfl; have hcz12_2 : w11.cell? ⟨gb126, 2, none⟩ = some (.int .i64 a0_2) := (blk_cell BK126.out 2).trans rfl; have hcz12_3 : w11.cell? ⟨gb126, 3, none⟩ = some (.int .i64 a0_3) := (blk_cell BK126.out 3).trans rfl; have hcz12_4 : w11.cell? ⟨gb126, 4, none⟩ = some (.int .i64 a0_4) := (blk_cell BK126.out 4).trans rfl; have hfz12_0 := blk_frozen BK126.out 0; have hfz12_1 := blk_frozen BK126.out 1; have hfz12_2 := blk_frozen BK126.out 2; have hfz12_3 := blk_frozen BK126.out 3; have hfz12_4 := blk_frozen BK126.out 4) | ((with_reducible refine gate_callee (f := 41) rfl ?_); refine goesL_ (some 34) rfl rfl Try.func41 (by kernel_rfl) rfl #[.int .i64 1000000, .int .i64 a0_4, .int .i64 (wrap64 (20 * t127))] rfl (by (try simp only [List.map_toArray, List.map_cons, List.map_nil]); first | done | rfl | (simp only [List.length_drop, List.length_take]; rfl)) ?_; (with_reducible refine (exact_Scale.calls 1000000 a0_4 (wrap64 (20 * t127)) t130 t131 _ A5.out).mono ?_); rintro e w13 ⟨rfl, hb⟩; refine ⟨_, rfl, ?_⟩; have n0_ := Aside0.mk (blk_below (g := gb126) (o := .cells #[.int .i64 a0_0, .int .i64 a0_1, .int .i64 a0_2, .int .i64 a0_3, .int .i64 a0_4] 39 (0, 0)) (by (with_reducible repeat (first | refine blk_drewN ?_ _ | refine blk_drew ?_ | refine blk_alloc ?_ _)); exact BK126.out) hb); have n1_ := Aside0.mk (below_step (by repeat (first | (with_reducible first | exact HB.out | apply below_alloc | apply pw_below_drewN | apply below_drew1 | refine below_set ?_ GE126.out) | exact HB.out)) hb); clear BK126; clear HB; have BK126 := n0_; have HB := n1_; clear n0_ n1_; (try clear hb); (try clear hb2); (try clear hk); (try clear hi)))
  go_ret
  exact ⟨by first | rfl | (simp [errW_none, errW_some] <;> rfl) | (simp only [← hji3, ← hji6]; first | rfl | (simp [errW_none, errW_some] <;> rfl)) | (simp [*, errW_none, errW_some] <;> rfl), by repeat (first | (with_reducible first | exact HB.out | apply below_alloc | apply pw_below_drewN | apply below_drew1 | refine below_set ?_ GE126.out) | exact HB.out)⟩

/-! ### timing_Drift: function 16 -/
def timing_Drift.f (a0_0 : Int) (a0_1 : Int) (a0_2 : Int) (a0_3 : Int) (a0_4 : Int) : Option (Int) := (timing_Right.f a0_0 a0_1 a0_2 a0_3 a0_4).bind fun t133 => (if t133 = true then ((timing_timed_drift.f a0_0 a0_1 a0_2 a0_3 a0_4).bind fun t134 => (some t134)) else (some 0))
set_option maxHeartbeats 8000000 in
set_option maxRecDepth 100000 in
theorem timing_Drift.calls (a0_0 : Int) (a0_1 : Int) (a0_2 : Int) (a0_3 : Int) (a0_4 : Int) (r : Int) (w : World) (h : timing_Drift.f a0_0 a0_1 a0_2 a0_3 a0_4 = some r) :
    Calls Try.prog 16 #[.agg #[.int .i64 a0_0, .int .i64 a0_1, .int .i64 a0_2, .int .i64 a0_3, .int .i64 a0_4]] w fun e w' => e = .returned (.int .i64 r) ∧ Below w.heap.size w w' := by
  have hu23 := Try.underlying23
  have hu39 := Try.underlying39
  have HB := Aside0.mk (Below.refl w.heap.size w)
  have H : ((timing_Right.f a0_0 a0_1 a0_2 a0_3 a0_4).bind fun t133 => (if t133 = true then ((timing_timed_drift.f a0_0 a0_1 a0_2 a0_3 a0_4).bind fun t134 => (some t134)) else (some 0))) = some r := h
  clear h
  replace H := Option.bind_eq_some_iff.mp H
  obtain ⟨t133, A20, H⟩ := H
  replace H : (if t133 = true then ((timing_timed_drift.f a0_0 a0_1 a0_2 a0_3 a0_4).bind fun t134 => (some t134)) else (some 0)) = some r := H
  have A2 := Aside0.mk A20
  clear A20
  by_cases c3 : t133 = true
  · subst c3
    have H1 : ((timing_timed_drift.f a0_0 a0_1 a0_2 a0_3 a0_4).bind fun t134 => (some t134)) = some r := by rw [if_pos rfl] at H; exact H
    clear H
    have H := H1
    clear H1
    replace H := Option.bind_eq_some_iff.mp H
    obtain ⟨t134, A40, H⟩ := H
    replace H : (some t134) = some r := H
    have A4 := Aside0.mk A40
    clear A40
    obtain rfl := Option.some.inj H
    go_enter Try.func16, Try.ntmps16
    go_wp2_with (first | ((with_reducible refine gate_dst (N := 1) rfl ?_); refine box_event ?hg (N := 1) ?hd (cs := #[.int .i64 a0_0, .int .i64 a0_1, .int .i64 a0_2, .int .i64 a0_3, .int .i64 a0_4]) (t := 23) ?hr ?_; (case hd => rfl); (case hg => rfl); (case hr => first | (go_simp; done) | (go_simp; rfl)); intro gb132 hg w5 hbox hb; have n0_ := Aside0.mk (below_step (by repeat (first | (with_reducible first | exact HB.out | apply below_alloc | apply pw_below_drewN | apply below_drew1) | exact HB.out)) hb); have n1_ := Aside0.mk (hbox); have n2_ := Aside0.mk ((by rw [hg]; exact (below_size (by repeat (first | (with_reducible first | exact HB.out | apply below_alloc | apply pw_below_drewN | apply below_drew1) | exact HB.out))) : w.heap.size ≤ gb132)); have n3_ := Aside0.mk ((by rw [hg]; exact (below_size (by repeat (first | (with_reducible first | exact HB.out | apply below_alloc | apply pw_below_drewN | apply below_drew1) | exact HB.out))) : w.heap.size ≤ gb132)); clear HB; have HB := n0_; have BK132 := n1_; have GW132 := n2_; have GE132 := n3_; clear n0_ n1_ n2_ n3_; clear hb hbox hg; have hcz6_0 : w5.cell? ⟨gb132, 0, none⟩ = some (.int .i64 a0_0) := (blk_cell BK132.out 0).trans rfl; have hcz6_1 : w5.cell? ⟨gb132, 1, none⟩ = some (.int .i64 a0_1) := (blk_cell BK132.out 1).trans rfl; have hcz6_2 : w5.cell? ⟨gb132, 2, none⟩ = some (.int .i64 a0_2) := (blk_cell BK132.out 2).trans rfl; have hcz6_3 : w5.cell? ⟨gb132, 3, none⟩ = some (.int .i64 a0_3) := (blk_cell BK132.out 3).trans rfl; have hcz6_4 : w5.cell? ⟨gb132, 4, none⟩ = some (.int .i64 a0_4) := (blk_cell BK132.out 4).trans rfl; have hfz6_0 := blk_frozen BK132.out 0; have hfz6_1 := blk_frozen BK132.out 1; have hfz6_2 := blk_frozen BK132.out 2; have hfz6_3 := blk_frozen BK132.out 3; have hfz6_4 := blk_frozen BK132.out 4) | ((with_reducible refine gate_callee (f := 8) rfl ?_); refine goesL_ (some 4) rfl rfl Try.func8 (by kernel_rfl) rfl #[.agg #[.int .i64 a0_0, .int .i64 a0_1, .int .i64 a0_2, .int .i64 a0_3, .int .i64 a0_4]] rfl (by (try simp only [List.map_toArray, List.map_cons, List.map_nil]); first | done | rfl | (simp only [List.length_drop, List.length_take]; rfl)) ?_; (with_reducible refine (timing_Right.calls a0_0 a0_1 a0_2 a0_3 a0_4 true _ A2.out).mono ?_); rintro e w7 ⟨rfl, hb⟩; refine ⟨_, rfl, ?_⟩; have n0_ := Aside0.mk (blk_below (g := gb132) (o := .cells #[.int .i64 a0_0, .int .i64 a0_1, .int .i64 a0_2, .int .i64 a0_3, .int .i64 a0_4] 23 (0, 0)) (by (with_reducible repeat (first | refine blk_drewN ?_ _ | refine blk_drew ?_ | refine blk_alloc ?_ _)); exact BK132.out) hb); have n1_ := Aside0.mk (below_step (by repeat (first | (with_reducible first | exact HB.out | apply below_alloc | apply pw_below_drewN | apply below_drew1 | refine below_set ?_ GE132.out) | exact HB.out)) hb); clear BK132; clear HB; have BK132 := n0_; have HB := n1_; clear n0_ n1_; (try clear hb); (try clear hb2); (try clear hk); (try clear hi); have hcz8_0 : w7.cell? ⟨gb132, 0, none⟩ = some (.int .i64 a0_0) := (blk_cell BK132.out 0).trans rfl; have hcz8_1 : w7.cell? ⟨gb132, 1, none⟩ = some (.int .i64 a0_1) := (blk_cell BK132.out 1).trans rfl; have hcz8_2 : w7.cell? ⟨gb132, 2, none⟩ = some (.int .i64 a0_2) := (blk_cell BK132.out 2).trans rfl; have hcz8_3 : w7.cell? ⟨gb132, 3, none⟩ = some (.int .i64 a0_3) := (blk_cell BK132.out 3).trans rfl; have hcz8_4 : w7.cell? ⟨gb132, 4, none⟩ = some (.int .i64 a0_4) := (blk_cell BK132.out 4).trans rfl; have hfz8_0 := blk_frozen BK132.out 0; have hfz8_1 := blk_frozen BK132.out 1; have hfz8_2 := blk_frozen BK132.out 2; have hfz8_3 := blk_frozen BK132.out 3; have hfz8_4 := blk_frozen BK132.out 4) | ((with_reducible refine gate_callee (f := 31) rfl ?_); refine goesL_ (some 8) rfl rfl Try.func31 (by kernel_rfl) rfl #[.agg #[.int .i64 a0_0, .int .i64 a0_1, .int .i64 a0_2, .int .i64 a0_3, .int .i64 a0_4]] rfl (by (try simp only [List.map_toArray, List.map_cons, List.map_nil]); first | done | rfl | (simp only [List.length_drop, List.length_take]; rfl)) ?_; (with_reducible refine (timing_timed_drift.calls a0_0 a0_1 a0_2 a0_3 a0_4 t134 _ A4.out).mono ?_); rintro e w9 ⟨rfl, hb⟩; refine ⟨_, rfl, ?_⟩; have n0_ := Aside0.mk (blk_below (g := gb132) (o := .cells #[.int .i64 a0_0, .int .i64 a0_1, .int .i64 a0_2, .int .i64 a0_3, .int .i64 a0_4] 23 (0, 0)) (by (with_reducible repeat (first | refine blk_drewN ?_ _ | refine blk_drew ?_ | refine blk_alloc ?_ _)); exact BK132.out) hb); have n1_ := Aside0.mk (below_step (by repeat (first | (with_reducible first | exact HB.out | apply below_alloc | apply pw_below_drewN | apply below_drew1 | refine below_set ?_ GE132.out) | exact HB.out)) hb); clear BK132; clear HB; have BK132 := n0_; have HB := n1_; clear n0_ n1_; (try clear hb); (try clear hb2); (try clear hk); (try clear hi)))
    go_ret
    exact ⟨by first | rfl | (simp [errW_none, errW_some] <;> rfl) | (simp [*, errW_none, errW_some] <;> rfl), by repeat (first | (with_reducible first | exact HB.out | apply below_alloc | apply pw_below_drewN | apply below_drew1 | refine below_set ?_ GE132.out) | exact HB.out)⟩
  · replace c3 := Bool.eq_false_iff.mpr c3
    subst c3
    have H1 : (some 0) = some r := by rw [if_neg (show ¬ (false = true) by decide)] at H; exact H
    clear H
    have H := H1
    clear H1
    obtain rfl := Option.some.inj H
    go_enter Try.func16, Try.ntmps16
    go_wp2_with (first | ((with_reducible refine gate_dst (N := 1) rfl ?_); refine box_event ?hg (N := 1) ?hd (cs := #[.int .i64 a0_0, .int .i64 a0_1, .int .i64 a0_2, .int .i64 a0_3, .int .i64 a0_4]) (t := 23) ?hr ?_; (case hd => rfl); (case hg => rfl); (case hr => first | (go_simp; done) | (go_simp; rfl)); intro gb132 hg w10 hbox hb; have n0_ := Aside0.mk (below_step (by repeat (first | (with_reducible first | exact HB.out | apply below_alloc | apply pw_below_drewN | apply below_drew1) | exact HB.out)) hb); have n1_ := Aside0.mk (hbox); have n2_ := Aside0.mk ((by rw [hg]; exact (below_size (by repeat (first | (with_reducible first | exact HB.out | apply below_alloc | apply pw_below_drewN | apply below_drew1) | exact HB.out))) : w.heap.size ≤ gb132)); have n3_ := Aside0.mk ((by rw [hg]; exact (below_size (by repeat (first | (with_reducible first | exact HB.out | apply below_alloc | apply pw_below_drewN | apply below_drew1) | exact HB.out))) : w.heap.size ≤ gb132)); clear HB; have HB := n0_; have BK132 := n1_; have GW132 := n2_; have GE132 := n3_; clear n0_ n1_ n2_ n3_; clear hb hbox hg; have hcz11_0 : w10.cell? ⟨gb132, 0, none⟩ = some (.int .i64 a0_0) := (blk_cell BK132.out 0).trans rfl; have hcz11_1 : w10.cell? ⟨gb132, 1, none⟩ = some (.int .i64 a0_1) := (blk_cell BK132.out 1).trans rfl; have hcz11_2 : w10.cell? ⟨gb132, 2, none⟩ = some (.int .i64 a0_2) := (blk_cell BK132.out 2).trans rfl; have hcz11_3 : w10.cell? ⟨gb132, 3, none⟩ = some (.int .i64 a0_3) := (blk_cell BK132.out 3).trans rfl; have hcz11_4 : w10.cell? ⟨gb132, 4, none⟩ = some (.int .i64 a0_4) := (blk_cell BK132.out 4).trans rfl; have hfz11_0 := blk_frozen BK132.out 0; have hfz11_1 := blk_frozen BK132.out 1; have hfz11_2 := blk_frozen BK132.out 2; have hfz11_3 := blk_frozen BK132.out 3; have hfz11_4 := blk_frozen BK132.out 4) | ((with_reducible refine gate_callee (f := 8) rfl ?_); refine goesL_ (some 4) rfl rfl Try.func8 (by kernel_rfl) rfl #[.agg #[.int .i64 a0_0, .int .i64 a0_1, .int .i64 a0_2, .int .i64 a0_3, .int .i64 a0_4]] rfl (by (try simp only [List.map_toArray, List.map_cons, List.map_nil]); first | done | rfl | (simp only [List.length_drop, List.length_take]; rfl)) ?_; (with_reducible refine (timing_Right.calls a0_0 a0_1 a0_2 a0_3 a0_4 false _ A2.out).mono ?_); rintro e w12 ⟨rfl, hb⟩; refine ⟨_, rfl, ?_⟩; have n0_ := Aside0.mk (blk_below (g := gb132) (o := .cells #[.int .i64 a0_0, .int .i64 a0_1, .int .i64 a0_2, .int .i64 a0_3, .int .i64 a0_4] 23 (0, 0)) (by (with_reducible repeat (first | refine blk_drewN ?_ _ | refine blk_drew ?_ | refine blk_alloc ?_ _)); exact BK132.out) hb); have n1_ := Aside0.mk (below_step (by repeat (first | (with_reducible first | exact HB.out | apply below_alloc | apply pw_below_drewN | apply below_drew1 | refine below_set ?_ GE132.out) | exact HB.out)) hb); clear BK132; clear HB; have BK132 := n0_; have HB := n1_; clear n0_ n1_; (try clear hb); (try clear hb2); (try clear hk); (try clear hi)))
    go_ret
    exact ⟨by first | rfl | (simp [errW_none, errW_some] <;> rfl) | (simp [*, errW_none, errW_some] <;> rfl), by repeat (first | (with_reducible first | exact HB.out | apply below_alloc | apply pw_below_drewN | apply below_drew1 | refine below_set ?_ GE132.out) | exact HB.out)⟩

/-! ### exact_Clamp: function 32 -/
def exact_Clamp.f (a0 : Int) (a1 : Int) (a2 : Int) : Option (Int) := if a0 < a1 then (some a1) else (some (mn a0 a2))
set_option maxHeartbeats 8000000 in
set_option maxRecDepth 100000 in
theorem exact_Clamp.calls (a0 : Int) (a1 : Int) (a2 : Int) (r : Int) (w : World) (h : exact_Clamp.f a0 a1 a2 = some r) :
    Calls Try.prog 32 #[.int .i64 a0, .int .i64 a1, .int .i64 a2] w fun e w' => e = .returned (.int .i64 r) ∧ Below w.heap.size w w' := by
  have HB := Aside0.mk (Below.refl w.heap.size w)
  have H : (if a0 < a1 then (some a1) else (some (mn a0 a2))) = some r := h
  clear h
  by_cases c4 : a0 < a1
  · rw [if_pos c4] at H
    have c4b0 : decide (a0 < a1) = true := decide_eq_true c4
    clear c4
    obtain rfl := Option.some.inj H
    go_enter Try.func32, Try.ntmps32
    go_wp2
    go_ret
    exact ⟨by first | rfl | (simp [errW_none, errW_some] <;> rfl) | (simp [*, errW_none, errW_some] <;> rfl), by repeat (first | (with_reducible first | exact HB.out | apply below_alloc | apply pw_below_drewN | apply below_drew1) | exact HB.out)⟩
  · rw [if_neg c4] at H
    have c4b0 : decide (a0 < a1) = false := decide_eq_false c4
    clear c4
    obtain ⟨ji5, hji5⟩ : ∃ j_ : Int, (mn a0 a2) = j_ := ⟨_, rfl⟩
    replace H : (some ji5) = some r := by first | (rw [hji5] at H; exact H) | (simp only [hji5] at H ⊢; exact H)
    have hji5_ : (if a2 < a0 then a2 else a0) = ji5 := hji5
    obtain rfl := Option.some.inj H
    go_enter Try.func32, Try.ntmps32
    go_wp2
    go_ret
    exact ⟨by first | rfl | (simp [errW_none, errW_some] <;> rfl) | (simp only [← hji5]; first | rfl | (simp [errW_none, errW_some] <;> rfl)) | (simp [*, errW_none, errW_some] <;> rfl), by repeat (first | (with_reducible first | exact HB.out | apply below_alloc | apply pw_below_drewN | apply below_drew1) | exact HB.out)⟩

/-! ### timing_Moved: function 18 -/
def timing_Moved.f (a0_0 : Int) (a0_1 : Int) (a0_2 : Int) (a0_3 : Int) (a0_4 : Int) (a1 : Int) : Option (Int) := (timing_Right.f a0_0 a0_1 a0_2 a0_3 a0_4).bind fun t136 => (if t136 = true then ((exact_Clamp.f a1 (wrap64 (-a0_4)) a0_4).bind fun t137 => (some t137)) else (some 0))
set_option maxHeartbeats 8000000 in
set_option maxRecDepth 100000 in
theorem timing_Moved.calls (a0_0 : Int) (a0_1 : Int) (a0_2 : Int) (a0_3 : Int) (a0_4 : Int) (a1 : Int) (r : Int) (w : World) (h : timing_Moved.f a0_0 a0_1 a0_2 a0_3 a0_4 a1 = some r) :
    Calls Try.prog 18 #[.agg #[.int .i64 a0_0, .int .i64 a0_1, .int .i64 a0_2, .int .i64 a0_3, .int .i64 a0_4], .int .i64 a1] w fun e w' => e = .returned (.int .i64 r) ∧ Below w.heap.size w w' := by
  have hu23 := Try.underlying23
  have HB := Aside0.mk (Below.refl w.heap.size w)
  have H : ((timing_Right.f a0_0 a0_1 a0_2 a0_3 a0_4).bind fun t136 => (if t136 = true then ((exact_Clamp.f a1 (wrap64 (-a0_4)) a0_4).bind fun t137 => (some t137)) else (some 0))) = some r := h
  clear h
  replace H := Option.bind_eq_some_iff.mp H
  obtain ⟨t136, A30, H⟩ := H
  replace H : (if t136 = true then ((exact_Clamp.f a1 (wrap64 (-a0_4)) a0_4).bind fun t137 => (some t137)) else (some 0)) = some r := H
  have A3 := Aside0.mk A30
  clear A30
  by_cases c4 : t136 = true
  · subst c4
    have H1 : ((exact_Clamp.f a1 (wrap64 (-a0_4)) a0_4).bind fun t137 => (some t137)) = some r := by rw [if_pos rfl] at H; exact H
    clear H
    have H := H1
    clear H1
    replace H := Option.bind_eq_some_iff.mp H
    obtain ⟨t137, A50, H⟩ := H
    replace H : (some t137) = some r := H
    have A5 := Aside0.mk A50
    clear A50
    obtain rfl := Option.some.inj H
    go_enter Try.func18, Try.ntmps18
    go_wp2_with (first | ((with_reducible refine gate_dst (N := 2) rfl ?_); refine box_event ?hg (N := 2) ?hd (cs := #[.int .i64 a0_0, .int .i64 a0_1, .int .i64 a0_2, .int .i64 a0_3, .int .i64 a0_4]) (t := 23) ?hr ?_; (case hd => rfl); (case hg => rfl); (case hr => first | (go_simp; done) | (go_simp; rfl)); intro gb135 hg w6 hbox hb; have n0_ := Aside0.mk (below_step (by repeat (first | (with_reducible first | exact HB.out | apply below_alloc | apply pw_below_drewN | apply below_drew1) | exact HB.out)) hb); have n1_ := Aside0.mk (hbox); have n2_ := Aside0.mk ((by rw [hg]; exact (below_size (by repeat (first | (with_reducible first | exact HB.out | apply below_alloc | apply pw_below_drewN | apply below_drew1) | exact HB.out))) : w.heap.size ≤ gb135)); have n3_ := Aside0.mk ((by rw [hg]; exact (below_size (by repeat (first | (with_reducible first | exact HB.out | apply below_alloc | apply pw_below_drewN | apply below_drew1) | exact HB.out))) : w.heap.size ≤ gb135)); clear HB; have HB := n0_; have BK135 := n1_; have GW135 := n2_; have GE135 := n3_; clear n0_ n1_ n2_ n3_; clear hb hbox hg; have hcz7_0 : w6.cell? ⟨gb135, 0, none⟩ = some (.int .i64 a0_0) := (blk_cell BK135.out 0).trans rfl; have hcz7_1 : w6.cell? ⟨gb135, 1, none⟩ = some (.int .i64 a0_1) := (blk_cell BK135.out 1).trans rfl; have hcz7_2 : w6.cell? ⟨gb135, 2, none⟩ = some (.int .i64 a0_2) := (blk_cell BK135.out 2).trans rfl; have hcz7_3 : w6.cell? ⟨gb135, 3, none⟩ = some (.int .i64 a0_3) := (blk_cell BK135.out 3).trans rfl; have hcz7_4 : w6.cell? ⟨gb135, 4, none⟩ = some (.int .i64 a0_4) := (blk_cell BK135.out 4).trans rfl; have hfz7_0 := blk_frozen BK135.out 0; have hfz7_1 := blk_frozen BK135.out 1; have hfz7_2 := blk_frozen BK135.out 2; have hfz7_3 := blk_frozen BK135.out 3; have hfz7_4 := blk_frozen BK135.out 4) | ((with_reducible refine gate_callee (f := 8) rfl ?_); refine goesL_ (some 6) rfl rfl Try.func8 (by kernel_rfl) rfl #[.agg #[.int .i64 a0_0, .int .i64 a0_1, .int .i64 a0_2, .int .i64 a0_3, .int .i64 a0_4]] rfl (by (try simp only [List.map_toArray, List.map_cons, List.map_nil]); first | done | rfl | (simp only [List.length_drop, List.length_take]; rfl)) ?_; (with_reducible refine (timing_Right.calls a0_0 a0_1 a0_2 a0_3 a0_4 true _ A3.out).mono ?_); rintro e w8 ⟨rfl, hb⟩; refine ⟨_, rfl, ?_⟩; have n0_ := Aside0.mk (blk_below (g := gb135) (o := .cells #[.int .i64 a0_0, .int .i64 a0_1, .int .i64 a0_2, .int .i64 a0_3, .int .i64 a0_4] 23 (0, 0)) (by (with_reducible repeat (first | refine blk_drewN ?_ _ | refine blk_drew ?_ | refine blk_alloc ?_ _)); exact BK135.out) hb); have n1_ := Aside0.mk (below_step (by repeat (first | (with_reducible first | exact HB.out | apply below_alloc | apply pw_below_drewN | apply below_drew1 | refine below_set ?_ GE135.out) | exact HB.out)) hb); clear BK135; clear HB; have BK135 := n0_; have HB := n1_; clear n0_ n1_; (try clear hb); (try clear hb2); (try clear hk); (try clear hi); have hcz9_0 : w8.cell? ⟨gb135, 0, none⟩ = some (.int .i64 a0_0) := (blk_cell BK135.out 0).trans rfl; have hcz9_1 : w8.cell? ⟨gb135, 1, none⟩ = some (.int .i64 a0_1) := (blk_cell BK135.out 1).trans rfl; have hcz9_2 : w8.cell? ⟨gb135, 2, none⟩ = some (.int .i64 a0_2) := (blk_cell BK135.out 2).trans rfl; have hcz9_3 : w8.cell? ⟨gb135, 3, none⟩ = some (.int .i64 a0_3) := (blk_cell BK135.out 3).trans rfl; have hcz9_4 : w8.cell? ⟨gb135, 4, none⟩ = some (.int .i64 a0_4) := (blk_cell BK135.out 4).trans rfl; have hfz9_0 := blk_frozen BK135.out 0; have hfz9_1 := blk_frozen BK135.out 1; have hfz9_2 := blk_frozen BK135.out 2; have hfz9_3 := blk_frozen BK135.out 3; have hfz9_4 := blk_frozen BK135.out 4) | ((with_reducible refine gate_callee (f := 32) rfl ?_); refine goesL_ (some 14) rfl rfl Try.func32 (by kernel_rfl) rfl #[.int .i64 a1, .int .i64 (wrap64 (-a0_4)), .int .i64 a0_4] rfl (by (try simp only [List.map_toArray, List.map_cons, List.map_nil]); first | done | rfl | (simp only [List.length_drop, List.length_take]; rfl)) ?_; (with_reducible refine (exact_Clamp.calls a1 (wrap64 (-a0_4)) a0_4 t137 _ A5.out).mono ?_); rintro e w10 ⟨rfl, hb⟩; refine ⟨_, rfl, ?_⟩; have n0_ := Aside0.mk (blk_below (g := gb135) (o := .cells #[.int .i64 a0_0, .int .i64 a0_1, .int .i64 a0_2, .int .i64 a0_3, .int .i64 a0_4] 23 (0, 0)) (by (with_reducible repeat (first | refine blk_drewN ?_ _ | refine blk_drew ?_ | refine blk_alloc ?_ _)); exact BK135.out) hb); have n1_ := Aside0.mk (below_step (by repeat (first | (with_reducible first | exact HB.out | apply below_alloc | apply pw_below_drewN | apply below_drew1 | refine below_set ?_ GE135.out) | exact HB.out)) hb); clear BK135; clear HB; have BK135 := n0_; have HB := n1_; clear n0_ n1_; (try clear hb); (try clear hb2); (try clear hk); (try clear hi)))
    go_ret
    exact ⟨by first | rfl | (simp [errW_none, errW_some] <;> rfl) | (simp [*, errW_none, errW_some] <;> rfl), by repeat (first | (with_reducible first | exact HB.out | apply below_alloc | apply pw_below_drewN | apply below_drew1 | refine below_set ?_ GE135.out) | exact HB.out)⟩
  · replace c4 := Bool.eq_false_iff.mpr c4
    subst c4
    have H1 : (some 0) = some r := by rw [if_neg (show ¬ (false = true) by decide)] at H; exact H
    clear H
    have H := H1
    clear H1
    obtain rfl := Option.some.inj H
    go_enter Try.func18, Try.ntmps18
    go_wp2_with (first | ((with_reducible refine gate_dst (N := 2) rfl ?_); refine box_event ?hg (N := 2) ?hd (cs := #[.int .i64 a0_0, .int .i64 a0_1, .int .i64 a0_2, .int .i64 a0_3, .int .i64 a0_4]) (t := 23) ?hr ?_; (case hd => rfl); (case hg => rfl); (case hr => first | (go_simp; done) | (go_simp; rfl)); intro gb135 hg w11 hbox hb; have n0_ := Aside0.mk (below_step (by repeat (first | (with_reducible first | exact HB.out | apply below_alloc | apply pw_below_drewN | apply below_drew1) | exact HB.out)) hb); have n1_ := Aside0.mk (hbox); have n2_ := Aside0.mk ((by rw [hg]; exact (below_size (by repeat (first | (with_reducible first | exact HB.out | apply below_alloc | apply pw_below_drewN | apply below_drew1) | exact HB.out))) : w.heap.size ≤ gb135)); have n3_ := Aside0.mk ((by rw [hg]; exact (below_size (by repeat (first | (with_reducible first | exact HB.out | apply below_alloc | apply pw_below_drewN | apply below_drew1) | exact HB.out))) : w.heap.size ≤ gb135)); clear HB; have HB := n0_; have BK135 := n1_; have GW135 := n2_; have GE135 := n3_; clear n0_ n1_ n2_ n3_; clear hb hbox hg; have hcz12_0 : w11.cell? ⟨gb135, 0, none⟩ = some (.int .i64 a0_0) := (blk_cell BK135.out 0).trans rfl; have hcz12_1 : w11.cell? ⟨gb135, 1, none⟩ = some (.int .i64 a0_1) := (blk_cell BK135.out 1).trans rfl; have hcz12_2 : w11.cell? ⟨gb135, 2, none⟩ = some (.int .i64 a0_2) := (blk_cell BK135.out 2).trans rfl; have hcz12_3 : w11.cell? ⟨gb135, 3, none⟩ = some (.int .i64 a0_3) := (blk_cell BK135.out 3).trans rfl; have hcz12_4 : w11.cell? ⟨gb135, 4, none⟩ = some (.int .i64 a0_4) := (blk_cell BK135.out 4).trans rfl; have hfz12_0 := blk_frozen BK135.out 0; have hfz12_1 := blk_frozen BK135.out 1; have hfz12_2 := blk_frozen BK135.out 2; have hfz12_3 := blk_frozen BK135.out 3; have hfz12_4 := blk_frozen BK135.out 4) | ((with_reducible refine gate_callee (f := 8) rfl ?_); refine goesL_ (some 6) rfl rfl Try.func8 (by kernel_rfl) rfl #[.agg #[.int .i64 a0_0, .int .i64 a0_1, .int .i64 a0_2, .int .i64 a0_3, .int .i64 a0_4]] rfl (by (try simp only [List.map_toArray, List.map_cons, List.map_nil]); first | done | rfl | (simp only [List.length_drop, List.length_take]; rfl)) ?_; (with_reducible refine (timing_Right.calls a0_0 a0_1 a0_2 a0_3 a0_4 false _ A3.out).mono ?_); rintro e w13 ⟨rfl, hb⟩; refine ⟨_, rfl, ?_⟩; have n0_ := Aside0.mk (blk_below (g := gb135) (o := .cells #[.int .i64 a0_0, .int .i64 a0_1, .int .i64 a0_2, .int .i64 a0_3, .int .i64 a0_4] 23 (0, 0)) (by (with_reducible repeat (first | refine blk_drewN ?_ _ | refine blk_drew ?_ | refine blk_alloc ?_ _)); exact BK135.out) hb); have n1_ := Aside0.mk (below_step (by repeat (first | (with_reducible first | exact HB.out | apply below_alloc | apply pw_below_drewN | apply below_drew1 | refine below_set ?_ GE135.out) | exact HB.out)) hb); clear BK135; clear HB; have BK135 := n0_; have HB := n1_; clear n0_ n1_; (try clear hb); (try clear hb2); (try clear hk); (try clear hi)))
    go_ret
    exact ⟨by first | rfl | (simp [errW_none, errW_some] <;> rfl) | (simp [*, errW_none, errW_some] <;> rfl), by repeat (first | (with_reducible first | exact HB.out | apply below_alloc | apply pw_below_drewN | apply below_drew1 | refine below_set ?_ GE135.out) | exact HB.out)⟩

-- NOT PRINTED: function 42 (timing_timed_42)

-- NOT PRINTED: function 33 (timing_timed_33)

-- NOT PRINTED: function 34 (timing_all)

-- NOT PRINTED: function 36 (timing_timed_36)

-- NOT PRINTED: function 20 (timing_Find)

-- NOT PRINTED: function 22 (timing_All)

-- NOT PRINTED: function 7 (bellbuoylaw36_live)

/-! ### bellbuoyref36_in: function 26 -/
def bellbuoyref36_in.f (a0 : Int) (a1 : Int) (a2 : Int) : Option (Bool) := if a0 ≥ a1 then (some (decide (a0 ≤ a2))) else (some false)
set_option maxHeartbeats 8000000 in
set_option maxRecDepth 100000 in
theorem bellbuoyref36_in.calls (a0 : Int) (a1 : Int) (a2 : Int) (r : Bool) (w : World) (h : bellbuoyref36_in.f a0 a1 a2 = some r) :
    Calls Try.prog 26 #[.int .i64 a0, .int .i64 a1, .int .i64 a2] w fun e w' => e = .returned (.bool r) ∧ Drawn0 w w' := by
  have H : (if a0 ≥ a1 then (some (decide (a0 ≤ a2))) else (some false)) = some r := h
  clear h
  by_cases c4 : a0 ≥ a1
  · rw [if_pos c4] at H
    have c4b0 : decide (a1 ≤ a0) = true := decide_eq_true c4
    clear c4
    obtain rfl := Option.some.inj H
    go_enter Try.func26, Try.ntmps26
    go_wp2
    go_ret
    exact ⟨by first | rfl | (simp; done) | (simp [*]; done), by repeat (first | exact Drawn0.refl _ | apply Drawn0.step)⟩
  · rw [if_neg c4] at H
    have c4b0 : decide (a1 ≤ a0) = false := decide_eq_false c4
    clear c4
    obtain rfl := Option.some.inj H
    go_enter Try.func26, Try.ntmps26
    go_wp2
    go_ret
    exact ⟨by first | rfl | (simp; done) | (simp [*]; done), by repeat (first | exact Drawn0.refl _ | apply Drawn0.step)⟩

/-! ### bellbuoyref36_quanta: function 27 -/
def bellbuoyref36_quanta.f (a0_0 : Int) (a0_1 : Int) (a0_2 : Int) (a0_3 : Int) (a0_4 : Int) : Option (Int) := some (wrap64 ((wrap64 ((wrap64 (1 + a0_1)) + a0_2)) + a0_3))
set_option maxHeartbeats 8000000 in
set_option maxRecDepth 100000 in
theorem bellbuoyref36_quanta.calls (a0_0 : Int) (a0_1 : Int) (a0_2 : Int) (a0_3 : Int) (a0_4 : Int) (r : Int) (w : World) (h : bellbuoyref36_quanta.f a0_0 a0_1 a0_2 a0_3 a0_4 = some r) :
    Calls Try.prog 27 #[.agg #[.int .i64 a0_0, .int .i64 a0_1, .int .i64 a0_2, .int .i64 a0_3, .int .i64 a0_4]] w fun e w' => e = .returned (.int .i64 r) ∧ Below w.heap.size w w' := by
  have hu23 := Try.underlying23
  have HB := Aside0.mk (Below.refl w.heap.size w)
  have H : (some (wrap64 ((wrap64 ((wrap64 (1 + a0_1)) + a0_2)) + a0_3))) = some r := h
  clear h
  obtain rfl := Option.some.inj H
  go_enter Try.func27, Try.ntmps27
  go_wp2_with (first | ((with_reducible refine gate_dst (N := 1) rfl ?_); refine box_event ?hg (N := 1) ?hd (cs := #[.int .i64 a0_0, .int .i64 a0_1, .int .i64 a0_2, .int .i64 a0_3, .int .i64 a0_4]) (t := 23) ?hr ?_; (case hd => rfl); (case hg => rfl); (case hr => first | (go_simp; done) | (go_simp; rfl)); intro gb140 hg w2 hbox hb; have n0_ := Aside0.mk (below_step (by repeat (first | (with_reducible first | exact HB.out | apply below_alloc | apply pw_below_drewN | apply below_drew1) | exact HB.out)) hb); have n1_ := Aside0.mk (hbox); have n2_ := Aside0.mk ((by rw [hg]; exact (below_size (by repeat (first | (with_reducible first | exact HB.out | apply below_alloc | apply pw_below_drewN | apply below_drew1) | exact HB.out))) : w.heap.size ≤ gb140)); have n3_ := Aside0.mk ((by rw [hg]; exact (below_size (by repeat (first | (with_reducible first | exact HB.out | apply below_alloc | apply pw_below_drewN | apply below_drew1) | exact HB.out))) : w.heap.size ≤ gb140)); clear HB; have HB := n0_; have BK140 := n1_; have GW140 := n2_; have GE140 := n3_; clear n0_ n1_ n2_ n3_; clear hb hbox hg; have hcz3_0 : w2.cell? ⟨gb140, 0, none⟩ = some (.int .i64 a0_0) := (blk_cell BK140.out 0).trans rfl; have hcz3_1 : w2.cell? ⟨gb140, 1, none⟩ = some (.int .i64 a0_1) := (blk_cell BK140.out 1).trans rfl; have hcz3_2 : w2.cell? ⟨gb140, 2, none⟩ = some (.int .i64 a0_2) := (blk_cell BK140.out 2).trans rfl; have hcz3_3 : w2.cell? ⟨gb140, 3, none⟩ = some (.int .i64 a0_3) := (blk_cell BK140.out 3).trans rfl; have hcz3_4 : w2.cell? ⟨gb140, 4, none⟩ = some (.int .i64 a0_4) := (blk_cell BK140.out 4).trans rfl; have hfz3_0 := blk_frozen BK140.out 0; have hfz3_1 := blk_frozen BK140.out 1; have hfz3_2 := blk_frozen BK140.out 2; have hfz3_3 := blk_frozen BK140.out 3; have hfz3_4 := blk_frozen BK140.out 4))
  go_ret
  exact ⟨by first | rfl | (simp [errW_none, errW_some] <;> rfl) | (simp [*, errW_none, errW_some] <;> rfl), by repeat (first | (with_reducible first | exact HB.out | apply below_alloc | apply pw_below_drewN | apply below_drew1 | refine below_set ?_ GE140.out) | exact HB.out)⟩

end Go.Proofs.Ytgekhkigeanajaa.P
