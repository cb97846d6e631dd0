/- What is proved here: each Go function that this text names answers as the Lean function of its name says, whenever that one answers; and a law's row follows from its plain statement. Laid by a program of the session over the kit's print. -/
import Derived.Test.YtgnkmpgnlpjglaaPx0
import Derived.Test.YtgnkmpgnlpjglaaPx1
namespace Go.Proofs.Ytgnkmpgnlpjglaa.P
open Go.RowKit Go.Proofs.YtgnkmpgnlpjglaaW.PrintWords Go.Proofs.YtgnkmpgnlpjglaaW.PrintLast Go.Proofs.YtgnkmpgnlpjglaaW.PrintMore
attribute [local go_sem] max2_int min2_int max_two min_two max_three min_three max_four min_four   -- for this text's walks alone
set_option linter.unusedVariables false
set_option linter.unusedSimpArgs false

/-! ### exact_Scale: function 48 -/
theorem xsize_eq (a : Int) (h0 : -9223372036854775808 ≤ a) (h1 : a ≤ 9223372036854775807) : exact_size.f a = some (if a < 0 then -a else a) := by
  unfold exact_size.f mx
  rw [mod64]
  congr 1
  unfold wrap64
  split <;> split <;> omega

theorem Mul64_eq (a b : Int) (a0 : 0 ≤ a) (a1 : a < 18446744073709551616) (b0 : 0 ≤ b) (b1 : b < 18446744073709551616) : bits_Mul64.f a b = some (a * b / 18446744073709551616, a * b % 18446744073709551616) := by
  unfold bits_Mul64.f
  rw [low32 a a0 a1, low32 b b0 b1]
  have hab : a * b = (a / 4294967296 * (b / 4294967296)) * 18446744073709551616 + (a / 4294967296 * (b % 4294967296) + a % 4294967296 * (b / 4294967296)) * 4294967296 + a % 4294967296 * (b % 4294967296) := by
    have ea : a = a / 4294967296 * 4294967296 + a % 4294967296 := by omega
    have eb : b = b / 4294967296 * 4294967296 + b % 4294967296 := by omega
    generalize a / 4294967296 = x at *
    generalize a % 4294967296 = y at *
    generalize b / 4294967296 = z at *
    generalize b % 4294967296 = v at *
    rw [ea, eb]
    simp only [Int.mul_add, Int.add_mul]
    have h1 : x * 4294967296 * (z * 4294967296) = x * z * 18446744073709551616 := by
      rw [Int.mul_assoc, Int.mul_left_comm 4294967296 z, ← Int.mul_assoc, show (4294967296 : Int) * 4294967296 = 18446744073709551616 from rfl]
    have h2 : x * 4294967296 * v = x * v * 4294967296 := by rw [Int.mul_assoc, Int.mul_comm 4294967296 v, ← Int.mul_assoc]
    have h3 : y * (z * 4294967296) = y * z * 4294967296 := by rw [← Int.mul_assoc]
    rw [h1, h2, h3]
    omega
  have m : ∀ x y : Int, 0 ≤ x → x < 4294967296 → 0 ≤ y → y < 4294967296 → 0 ≤ x * y ∧ x * y ≤ 18446744065119617025 := by
    intro x y x0 x1 y0 y1
    exact ⟨Int.mul_nonneg x0 y0, by have := Int.mul_le_mul (show x ≤ 4294967295 by omega) (show y ≤ 4294967295 by omega) y0 (by omega); omega⟩
  have m1 := m (a / 4294967296) (b / 4294967296) (by omega) (by omega) (by omega) (by omega)
  have m2 := m (a / 4294967296) (b % 4294967296) (by omega) (by omega) (by omega) (by omega)
  have m3 := m (a % 4294967296) (b / 4294967296) (by omega) (by omega) (by omega) (by omega)
  have m4 := m (a % 4294967296) (b % 4294967296) (by omega) (by omega) (by omega) (by omega)
  rw [hab]
  clear hab m
  generalize a / 4294967296 * (b / 4294967296) = z1 at *
  generalize a / 4294967296 * (b % 4294967296) = z2 at *
  generalize a % 4294967296 * (b / 4294967296) = z3 at *
  generalize a % 4294967296 * (b % 4294967296) = z4 at *
  have w1 : IntKind.u64.wrap z1 = z1 := by rw [mod64]; omega
  have w2 : IntKind.u64.wrap z2 = z2 := by rw [mod64]; omega
  have w3 : IntKind.u64.wrap z3 = z3 := by rw [mod64]; omega
  have w4 : IntKind.u64.wrap z4 = z4 := by rw [mod64]; omega
  rw [w1, w2, w3, w4]
  have w5 : IntKind.u64.wrap (z2 + z4 / 4294967296) = z2 + z4 / 4294967296 := by rw [mod64]; omega
  rw [w5, low32 _ (by omega) (by omega)]
  have w6 : IntKind.u64.wrap ((z2 + z4 / 4294967296) % 4294967296 + z3) = (z2 + z4 / 4294967296) % 4294967296 + z3 := by rw [mod64]; omega
  rw [w6, mod64, mod64, mod64]
  congr 2
  · omega

set_option maxHeartbeats 2000000 in
set_option maxRecDepth 100000 in
theorem signed_walk (p0 p1 : Int) (below g1 g2 : Bool) (w : World) (e1 : decide (0 < p0) = g1) (e2 : decide ((if below = true then 9223372036854775808 else 9223372036854775807) < p1) = g2) (hp : g1 = false → g2 = false → 0 ≤ p1 ∧ p1 ≤ 9223372036854775808) :
    Calls Try.prog 44 #[.agg #[.int .u64 p0, .int .u64 p1], .bool below] w fun e w' => e = .returned (if (g1 || g2) = true then .tuple #[.int .i64 0, .bool false] else .tuple #[.int .i64 (if below = true then -p1 else p1), .bool true]) ∧ Below w.heap.size w w' := by
  have hu34 := Try.underlying89
  have Hp := Aside0.mk hp
  clear hp
  cases below <;> cases g1 <;> cases g2
  all_goals
    simp only [Bool.false_eq_true, if_false, if_true, Bool.or_false, Bool.or_true] at e2 ⊢
    go_enter Try.func44, Try.ntmps44
    go_wp2
    go_ret2
    refine ⟨?_, below_alloc (Below.refl _ _) _⟩
    first | rfl | skip
  · have hh := Hp.out (by simp) (by simp)
    have h1 : wrap64 p1 = p1 := by rw [decide_eq_false_iff_not] at e2; unfold wrap64; omega
    show Ending.returned (.tuple #[.int .i64 (wrap64 p1), .bool true]) = _
    rw [h1]
  · have hh := Hp.out (by simp) (by simp)
    have h1 : wrap64 (IntKind.u64.wrap (bits .xor .u64 IntKind.u64.max p1 + 1)) = -p1 := by rw [xor_max p1 (by omega) (by omega), mod64]; unfold wrap64; omega
    show Ending.returned (.tuple #[.int .i64 (wrap64 (IntKind.u64.wrap (bits .xor .u64 IntKind.u64.max p1 + 1))), .bool true]) = _
    rw [h1]
theorem signed_calls (p0 p1 r1 : Int) (below r2 : Bool) (w : World) (h0 : 0 ≤ p0) (g0 : 0 ≤ p1) (g1 : p1 < 18446744073709551616) (hs : sgn (p0 * 18446744073709551616 + p1) below = (r1, r2)) :
    Calls Try.prog 44 #[.agg #[.int .u64 p0, .int .u64 p1], .bool below] w fun e w' => e = .returned (.tuple #[.int .i64 r1, .bool r2]) ∧ Below w.heap.size w w' := by
  refine (signed_walk p0 p1 below _ _ w rfl rfl (fun _ h => ?_)).mono ?_
  · rw [decide_eq_false_iff_not] at h
    revert h
    split <;> omega
  · rintro e w' ⟨rfl, hb⟩
    refine ⟨?_, hb⟩
    by_cases c1 : 0 < p0
    · rw [decide_eq_true c1, Bool.true_or, if_pos rfl]
      have : sgn (p0 * 18446744073709551616 + p1) below = (0, false) := by
        unfold sgn fits
        cases below
        · simp only [Bool.false_eq_true, if_false]
          rw [if_neg (by omega)]
        · rw [if_pos rfl, if_neg (by omega)]
      rw [this] at hs
      simp only [Prod.mk.injEq] at hs
      rw [← hs.1, ← hs.2]
    · obtain rfl : p0 = 0 := by omega
      rw [decide_eq_false c1, Bool.false_or]
      by_cases c2 : (if below = true then 9223372036854775808 else 9223372036854775807) < p1
      · rw [decide_eq_true c2, if_pos rfl]
        have : sgn (0 * 18446744073709551616 + p1) below = (0, false) := by
          unfold sgn fits
          cases below
          · simp only [Bool.false_eq_true, if_false] at c2 ⊢
            rw [if_neg (by omega)]
          · rw [if_pos rfl] at c2 ⊢
            rw [if_neg (by omega)]
        rw [this] at hs
        simp only [Prod.mk.injEq] at hs
        rw [← hs.1, ← hs.2]
      · rw [decide_eq_false c2, if_neg (by simp)]
        have : sgn (0 * 18446744073709551616 + p1) below = (if below = true then -p1 else p1, true) := by
          unfold sgn fits
          cases below
          · simp only [Bool.false_eq_true, if_false] at c2 ⊢
            rw [if_pos (by omega), Int.zero_mul, Int.zero_add]
          · rw [if_pos rfl] at c2 ⊢
            rw [if_pos (by omega), Int.zero_mul, Int.zero_add, if_pos rfl]
        rw [this] at hs
        simp only [Prod.mk.injEq] at hs
        rw [← hs.1, ← hs.2]

theorem l0_spec (Y s y1 y0 h m m2 : Int) (hY : Y = y1 * 4294967296 + y0) (a0 : 2147483648 ≤ y1) (a1 : y1 < 4294967296) (b0 : 0 ≤ y0) (b1 : y0 < 4294967296) (h0 : 0 ≤ h) (h1 : h < Y) (m0 : 0 ≤ m) (m1 : m < 4294967296) :
    ∀ (n : Nat) (j : Nat) (q r : Int), h = q * y1 + r → 0 ≤ r → r < 4294967296 → 4294967296 ≤ r + n * 2147483648 → (h * 4294967296 + m) / Y ≤ q → q < 18446744073709551616 →
      ∃ k, j ≤ k ∧ bits_Div64.l0 (2 * n + 2 + j) Y s y1 y0 h m m2 q r = bits_Div64.j2 k Y s y1 y0 h m m2 ((h * 4294967296 + m) / Y) := by
  intro n
  induction n with
  | zero => intro j q r hq r0 r1 hn; omega
  | succ n ih =>
    intro j q r hq r0 r1 hn hQ qM
    have q0 : 0 ≤ (h * 4294967296 + m) / Y := Int.ediv_nonneg (by omega) (by omega)
    have ht := kn_test Y y1 y0 h m hY a0 a1 b0 b1 h0 h1 m0 m1 q r hq
    have step : (q * y0 > r * 4294967296 + m ∨ q ≥ 4294967296) → ∃ k, j ≤ k ∧ bits_Div64.j1 (2 * (n + 1) + 1 + j) Y s y1 y0 h m m2 q r true = bits_Div64.j2 k Y s y1 y0 h m m2 ((h * 4294967296 + m) / Y) := by
      intro hc
      have hlt : (h * 4294967296 + m) / Y < q := by
        rcases hc with hc | hc
        · apply Classical.byContradiction; intro h'; have := ht.2 (by omega); omega
        · have : (h * 4294967296 + m) / Y < 4294967296 := (Int.ediv_lt_iff_lt_mul (by omega)).2 (by omega)
          omega
      have hq' : h = (q - 1) * y1 + (r + y1) := by rw [Int.sub_mul, Int.one_mul]; omega
      rw [show 2 * (n + 1) + 1 + j = (2 * n + 2 + j) + 1 by omega]
      simp only [bits_Div64.j1, if_true]
      have w1 : IntKind.u64.wrap (r + y1) = r + y1 := by rw [mod64]; omega
      have w2 : IntKind.u64.wrap (q - 1) = q - 1 := by rw [mod64]; omega
      rw [w1, w2]
      by_cases hr : r + y1 ≥ 4294967296
      · rw [if_pos hr]
        have := kn_end Y y1 y0 h m hY a0 a1 b0 b1 h0 h1 m0 m1 (q - 1) (r + y1) hq' hr (by omega)
        exact ⟨2 * n + 2 + j, by omega, by rw [show q - 1 = (h * 4294967296 + m) / Y by omega]⟩
      · rw [if_neg hr]
        exact ih j (q - 1) (r + y1) hq' (by omega) (by omega) (by omega) (by omega) (by omega)
    rw [show 2 * (n + 1) + 2 + j = (2 * (n + 1) + 1 + j) + 1 by omega]
    simp only [bits_Div64.l0]
    by_cases hc : q ≥ 4294967296
    · rw [if_pos hc]
      exact step (.inr hc)
    · rw [if_neg hc]
      have p0 : 0 ≤ q * y0 := Int.mul_nonneg (by omega) b0
      have p1 : q * y0 ≤ 4294967295 * 4294967295 := Int.mul_le_mul (by omega) (by omega) b0 (by omega)
      have w1 : IntKind.u64.wrap (q * y0) = q * y0 := by rw [mod64]; omega
      have w2 : IntKind.u64.wrap (IntKind.u64.wrap (4294967296 * r) + m) = r * 4294967296 + m := by rw [mod64, mod64]; omega
      rw [w1, w2]
      by_cases hd : q * y0 > r * 4294967296 + m
      · rw [decide_eq_true hd]
        exact step (.inl hd)
      · rw [decide_eq_false hd, show 2 * (n + 1) + 1 + j = (2 * n + 2 + j) + 1 by omega]
        simp only [bits_Div64.j1, Bool.false_eq_true, if_false]
        have := ht.1 (by omega)
        exact ⟨2 * n + 2 + j, by omega, by rw [show q = (h * 4294967296 + m) / Y by omega]⟩
theorem l1_spec (Y s y1 y0 h m q1 : Int) (hs : 0 ≤ s) (hY : Y = y1 * 4294967296 + y0) (a0 : 2147483648 ≤ y1) (a1 : y1 < 4294967296) (b0 : 0 ≤ y0) (b1 : y0 < 4294967296) (h0 : 0 ≤ h) (h1 : h < Y) (m0 : 0 ≤ m) (m1 : m < 4294967296) (c0 : 0 ≤ q1) (c1 : q1 < 4294967296) :
    ∀ (n : Nat) (j : Nat) (q r : Int), h = q * y1 + r → 0 ≤ r → r < 4294967296 → 4294967296 ≤ r + n * 2147483648 → (h * 4294967296 + m) / Y ≤ q → q < 18446744073709551616 →
      bits_Div64.l1 (2 * n + 2 + j) Y s y1 y0 m q1 r h q = some (q1 * 4294967296 + (h * 4294967296 + m) / Y, shr .u64 ((h * 4294967296 + m) % Y) s) := by
  intro n
  have q0 : 0 ≤ (h * 4294967296 + m) / Y := Int.ediv_nonneg (by omega) (by omega)
  have q2 : (h * 4294967296 + m) / Y < 4294967296 := (Int.ediv_lt_iff_lt_mul (by omega)).2 (by omega)
  have e := Int.mul_ediv_add_emod (h * 4294967296 + m) Y
  have e0 := Int.emod_nonneg (h * 4294967296 + m) (b := Y) (by omega)
  have e1 := Int.emod_lt_of_pos (h * 4294967296 + m) (b := Y) (by omega)
  have fin1 : IntKind.u64.wrap (IntKind.u64.wrap (q1 * 4294967296) + (h * 4294967296 + m) / Y) = q1 * 4294967296 + (h * 4294967296 + m) / Y := by rw [mod64, mod64]; omega
  have fin2 : IntKind.u64.wrap (IntKind.u64.wrap (IntKind.u64.wrap (h * 4294967296) + m) - IntKind.u64.wrap ((h * 4294967296 + m) / Y * Y)) = (h * 4294967296 + m) % Y := by
    rw [Int.mul_comm Y] at e
    rw [mod64, mod64, mod64, mod64]
    generalize (h * 4294967296 + m) / Y * Y = z at *
    omega
  induction n with
  | zero => intro j q r hq r0 r1 hn; omega
  | succ n ih =>
    intro j q r hq r0 r1 hn hQ qM
    have ht := kn_test Y y1 y0 h m hY a0 a1 b0 b1 h0 h1 m0 m1 q r hq
    have step : (q * y0 > r * 4294967296 + m ∨ q ≥ 4294967296) → bits_Div64.j4 (2 * (n + 1) + 1 + j) Y s y1 y0 m q1 r h q true = some (q1 * 4294967296 + (h * 4294967296 + m) / Y, shr .u64 ((h * 4294967296 + m) % Y) s) := by
      intro hc
      have hlt : (h * 4294967296 + m) / Y < q := by
        rcases hc with hc | hc
        · apply Classical.byContradiction; intro h'; have := ht.2 (by omega); omega
        · omega
      have hq' : h = (q - 1) * y1 + (r + y1) := by rw [Int.sub_mul, Int.one_mul]; omega
      rw [show 2 * (n + 1) + 1 + j = (2 * n + 2 + j) + 1 by omega]
      simp only [bits_Div64.j4, if_true]
      have w1 : IntKind.u64.wrap (r + y1) = r + y1 := by rw [mod64]; omega
      have w2 : IntKind.u64.wrap (q - 1) = q - 1 := by rw [mod64]; omega
      rw [w1, w2]
      by_cases hr : r + y1 ≥ 4294967296
      · have := kn_end Y y1 y0 h m hY a0 a1 b0 b1 h0 h1 m0 m1 (q - 1) (r + y1) hq' hr (by omega)
        rw [if_pos hr, if_pos hs, show q - 1 = (h * 4294967296 + m) / Y by omega, fin1, fin2]
      · rw [if_neg hr]
        exact ih j (q - 1) (r + y1) hq' (by omega) (by omega) (by omega) (by omega) (by omega)
    rw [show 2 * (n + 1) + 2 + j = (2 * (n + 1) + 1 + j) + 1 by omega]
    simp only [bits_Div64.l1]
    by_cases hc : q ≥ 4294967296
    · rw [if_pos hc]
      exact step (.inr hc)
    · rw [if_neg hc]
      have p0 : 0 ≤ q * y0 := Int.mul_nonneg (by omega) b0
      have p1 : q * y0 ≤ 4294967295 * 4294967295 := Int.mul_le_mul (by omega) (by omega) b0 (by omega)
      have w1 : IntKind.u64.wrap (q * y0) = q * y0 := by rw [mod64]; omega
      have w2 : IntKind.u64.wrap (IntKind.u64.wrap (4294967296 * r) + m) = r * 4294967296 + m := by rw [mod64, mod64]; omega
      rw [w1, w2]
      by_cases hd : q * y0 > r * 4294967296 + m
      · rw [decide_eq_true hd]
        exact step (.inl hd)
      · rw [decide_eq_false hd, show 2 * (n + 1) + 1 + j = (2 * n + 2 + j) + 1 by omega]
        simp only [bits_Div64.j4, Bool.false_eq_true, if_false]
        have := ht.1 (by omega)
        rw [if_pos hs, show q = (h * 4294967296 + m) / Y by omega, fin1, fin2]
/-- The normalised division. -/
theorem Div64_norm (Y s N1 N0 : Int) (hs : 0 ≤ s) (Y0 : 9223372036854775808 ≤ Y) (Y1 : Y < 18446744073709551616) (n0 : 0 ≤ N1) (n1 : N1 < Y) (l0 : 0 ≤ N0) (l1 : N0 < 18446744073709551616) :
    bits_Div64.l0 20 Y s (Y / 4294967296) (bits .and .u64 Y 4294967295) N1 (N0 / 4294967296) (bits .and .u64 N0 4294967295) (IntKind.u64.wrap (Int.tdiv N1 (Y / 4294967296))) (IntKind.u64.wrap (N1 - IntKind.u64.wrap (IntKind.u64.wrap (Int.tdiv N1 (Y / 4294967296)) * (Y / 4294967296)))) =
      some ((N1 * 18446744073709551616 + N0) / Y, shr .u64 ((N1 * 18446744073709551616 + N0) % Y) s) := by
  rw [low32 Y (by omega) Y1, low32 N0 l0 l1, quo_u64 N1 _ n0 (by omega) (by omega), rem_u64 N1 _ n0 (by omega) (by omega)]
  have e1 := Int.mul_ediv_add_emod N1 (Y / 4294967296)
  have r0 := Int.emod_nonneg N1 (b := Y / 4294967296) (by omega)
  have r1 := Int.emod_lt_of_pos N1 (b := Y / 4294967296) (by omega)
  rw [Int.mul_comm] at e1
  have hle := Int.ediv_le_self (Y / 4294967296) n0
  obtain ⟨k, hk, hk2⟩ := l0_spec Y s (Y / 4294967296) (Y % 4294967296) N1 (N0 / 4294967296) (N0 % 4294967296) (by omega) (by omega) (by omega) (by omega) (by omega) n0 n1 (by omega) (by omega) 2 14 (N1 / (Y / 4294967296)) (N1 % (Y / 4294967296)) (by omega) r0 (by omega) (by omega)
    (kn_first Y (Y / 4294967296) (Y % 4294967296) N1 (N0 / 4294967296) (by omega) (by omega) (by omega) (by omega) (by omega) n0 n1 (by omega) (by omega)) (by omega)
  rw [hk2]
  obtain ⟨j, rfl⟩ : ∃ j, k = (2 * 2 + 2 + j) + 1 := ⟨k - 7, by omega⟩
  simp only [bits_Div64.j2]
  rw [if_neg (by omega)]
  have q0 : 0 ≤ (N1 * 4294967296 + N0 / 4294967296) / Y := Int.ediv_nonneg (by omega) (by omega)
  have q2 : (N1 * 4294967296 + N0 / 4294967296) / Y < 4294967296 := (Int.ediv_lt_iff_lt_mul (by omega)).2 (by omega)
  have e2 := Int.mul_ediv_add_emod (N1 * 4294967296 + N0 / 4294967296) Y
  have s0 := Int.emod_nonneg (N1 * 4294967296 + N0 / 4294967296) (b := Y) (by omega)
  have s1 := Int.emod_lt_of_pos (N1 * 4294967296 + N0 / 4294967296) (b := Y) (by omega)
  rw [Int.mul_comm] at e2
  have hR : IntKind.u64.wrap (IntKind.u64.wrap (IntKind.u64.wrap (N1 * 4294967296) + N0 / 4294967296) - IntKind.u64.wrap ((N1 * 4294967296 + N0 / 4294967296) / Y * Y)) = (N1 * 4294967296 + N0 / 4294967296) % Y := by
    rw [mod64, mod64, mod64, mod64]
    generalize (N1 * 4294967296 + N0 / 4294967296) / Y * Y = z at *
    omega
  rw [hR]
  generalize hRR : (N1 * 4294967296 + N0 / 4294967296) % Y = R at *
  generalize hQQ : (N1 * 4294967296 + N0 / 4294967296) / Y = Q at *
  rw [quo_u64 R _ s0 (by omega) (by omega), rem_u64 R _ s0 (by omega) (by omega)]
  have e3 := Int.mul_ediv_add_emod R (Y / 4294967296)
  have t0 := Int.emod_nonneg R (b := Y / 4294967296) (by omega)
  have t1 := Int.emod_lt_of_pos R (b := Y / 4294967296) (by omega)
  rw [Int.mul_comm] at e3
  have hle2 := Int.ediv_le_self (Y / 4294967296) s0
  rw [l1_spec Y s (Y / 4294967296) (Y % 4294967296) R (N0 % 4294967296) Q hs (by omega) (by omega) (by omega) (by omega) (by omega) s0 s1 (by omega) (by omega) q0 q2 2 j (R / (Y / 4294967296)) (R % (Y / 4294967296)) (by omega) t0 (by omega) (by omega)
    (kn_first Y (Y / 4294967296) (Y % 4294967296) R (N0 % 4294967296) (by omega) (by omega) (by omega) (by omega) (by omega) s0 s1 (by omega) (by omega)) (by omega)]
  have e4 := Int.mul_ediv_add_emod (R * 4294967296 + N0 % 4294967296) Y
  have v0 := Int.emod_nonneg (R * 4294967296 + N0 % 4294967296) (b := Y) (by omega)
  have v1 := Int.emod_lt_of_pos (R * 4294967296 + N0 % 4294967296) (b := Y) (by omega)
  have hu := (Int.ediv_emod_unique (a := N1 * 18446744073709551616 + N0) (r := (R * 4294967296 + N0 % 4294967296) % Y) (q := Q * 4294967296 + (R * 4294967296 + N0 % 4294967296) / Y) (b := Y) (by omega)).2 ⟨by
    rw [Int.mul_add, ← Int.mul_assoc, Int.mul_comm Y Q]
    generalize Q * Y = z1 at *
    generalize Y * ((R * 4294967296 + N0 % 4294967296) / Y) = z2 at *
    omega, v0, v1⟩
  rw [hu.1, hu.2]
theorem Div64_eq (hi lo y : Int) (h0 : 0 ≤ hi) (h1 : hi < y) (l0 : 0 ≤ lo) (l1 : lo < 18446744073709551616) (y1 : y < 18446744073709551616) :
    bits_Div64.f 20 hi lo y = some ((hi * 18446744073709551616 + lo) / y, (hi * 18446744073709551616 + lo) % y) := by
  unfold bits_Div64.f
  rw [if_neg (by omega), if_neg (by omega)]
  by_cases hz : hi = 0
  · subst hz
    have := Int.ediv_le_self y l0
    have h2 : 0 ≤ lo / y := Int.ediv_nonneg l0 (by omega)
    rw [if_pos rfl, Int.tdiv_eq_ediv_of_nonneg l0, Int.tmod_eq_emod_of_nonneg l0, Int.zero_mul, Int.zero_add, mod64]
    congr 2
    omega
  · rw [if_neg hz]
    have hy : (y.toNat : Int) = y := by omega
    have hb := bl_spec y.toNat (by omega)
    have hb2 := bl_le y.toNat (by omega)
    obtain ⟨s, hs⟩ : ∃ s : Nat, bl y.toNat + s = 64 := ⟨64 - bl y.toNat, by omega⟩
    unfold bits_LeadingZeros64.f bits_Len64.f
    rw [if_pos (by omega)]
    simp only [Option.bind_some]
    have w1 : wrap64 (64 - ((bl y.toNat : Nat) : Int)) = (s : Int) := by unfold wrap64; omega
    have w2 : IntKind.u64.wrap (s : Int) = s := by rw [mod64]; omega
    have w3 : IntKind.u64.wrap (64 - (s : Int)) = ((64 - s : Nat) : Int) := by rw [mod64]; omega
    rw [w1, w2, w3, if_pos (by omega), if_pos (by omega)]
    have hp : (0 : Int) < 2 ^ s := Int.pow_pos (by omega)
    have hpow : (2 : Int) ^ bl y.toNat * 2 ^ s = 18446744073709551616 := by rw [← Int.pow_add, hs]; rfl
    have hpow2 : (2 : Int) ^ (bl y.toNat - 1) * 2 ^ s = 9223372036854775808 := by rw [← Int.pow_add, show bl y.toNat - 1 + s = 63 by omega]; rfl
    have hlo : (2 : Int) ^ (bl y.toNat - 1) ≤ y := by
      have h := hb.2.1
      have : ((2 ^ (bl y.toNat - 1) : Nat) : Int) ≤ (y.toNat : Int) := by exact_mod_cast h
      rw [hy] at this
      simpa using this
    have hhi : y < (2 : Int) ^ bl y.toNat := by
      have h := hb.2.2
      have : (y.toNat : Int) < ((2 ^ bl y.toNat : Nat) : Int) := by exact_mod_cast h
      rw [hy] at this
      simpa using this
    have Y0 : 9223372036854775808 ≤ y * 2 ^ s := by rw [← hpow2]; exact Int.mul_le_mul_of_nonneg_right hlo (by omega)
    have Y1 : y * 2 ^ s < 18446744073709551616 := by rw [← hpow]; exact Int.mul_lt_mul_of_pos_right hhi hp
    have sh1 : ∀ x : Int, shl .u64 x (s : Int) = (x * 2 ^ s) % 18446744073709551616 := by
      intro x
      unfold shl
      rw [Int.toNat_natCast, Nat.min_eq_left (by show s ≤ 64; omega), mod64]
    have hH : hi * 2 ^ s < 18446744073709551616 := by
      have := Int.mul_lt_mul_of_pos_right h1 hp
      omega
    have hH0 : 0 ≤ hi * 2 ^ s := Int.mul_nonneg h0 (by omega)
    have hL0 : 0 ≤ lo * 2 ^ s := Int.mul_nonneg l0 (by omega)
    have hlo2 : lo * 2 ^ s / 18446744073709551616 = lo / 2 ^ (64 - s) := by
      have h64 : (18446744073709551616 : Int) = 2 ^ (64 - s) * 2 ^ s := by rw [← Int.pow_add, show 64 - s + s = 64 by omega]; rfl
      rw [h64]
      exact Int.mul_ediv_mul_of_pos_left _ _ hp
    have sh2 : shr .u64 lo ((64 - s : Nat) : Int) = lo * 2 ^ s / 18446744073709551616 := by
      unfold shr
      rw [Int.toNat_natCast, Nat.min_eq_left (by show 64 - s ≤ 64; omega), hlo2]
    have hL1 : lo * 2 ^ s / 18446744073709551616 < 2 ^ s := by
      refine (Int.ediv_lt_iff_lt_mul (by omega)).2 ?_
      rw [Int.mul_comm (2 ^ s)]
      exact Int.mul_lt_mul_of_pos_right l1 hp
    have hLn : 0 ≤ lo * 2 ^ s / 18446744073709551616 := Int.ediv_nonneg hL0 (by omega)
    have hg : (2 : Int) ^ s ≤ y * 2 ^ s := by
      have := Int.mul_le_mul_of_nonneg_right (a := 1) (b := y) (c := 2 ^ s) (by omega) (by omega)
      omega
    have hor : bits .or .u64 (hi * 2 ^ s) (lo * 2 ^ s / 18446744073709551616) = hi * 2 ^ s + lo * 2 ^ s / 18446744073709551616 := by
      refine bits_join .u64 64 (by decide) (fun n h₀ h₁ => by rw [mod64]; have : (2 : Int) ^ 64 = 18446744073709551616 := rfl; omega) s _ _ hH0 (Int.mul_emod_left _ _) ?_ hLn hL1 ?_
      · exact hH
      · have : (2 : Int) ^ 64 = 18446744073709551616 := rfl
        omega
    have hYs : (y * 2 ^ s) % 18446744073709551616 = y * 2 ^ s := Int.emod_eq_of_lt (by omega) Y1
    have hHs : (hi * 2 ^ s) % 18446744073709551616 = hi * 2 ^ s := Int.emod_eq_of_lt hH0 hH
    rw [sh1 y, sh1 hi, sh1 lo, sh2, hYs, hHs, hor, if_neg (by omega)]
    have hN1 : hi * 2 ^ s + lo * 2 ^ s / 18446744073709551616 < y * 2 ^ s := by
      have h2 : (hi + 1) * 2 ^ s ≤ y * 2 ^ s := Int.mul_le_mul_of_nonneg_right (by omega) (by omega)
      rw [Int.add_mul, Int.one_mul] at h2
      omega
    rw [Div64_norm (y * 2 ^ s) (s : Int) (hi * 2 ^ s + lo * 2 ^ s / 18446744073709551616) (lo * 2 ^ s % 18446744073709551616) (by omega) Y0 Y1 (by omega) hN1 (by omega) (by omega)]
    have hN : (hi * 2 ^ s + lo * 2 ^ s / 18446744073709551616) * 18446744073709551616 + lo * 2 ^ s % 18446744073709551616 = (hi * 18446744073709551616 + lo) * 2 ^ s := by
      rw [Int.add_mul (hi * 18446744073709551616)]
      rw [show hi * 18446744073709551616 * 2 ^ s = hi * 2 ^ s * 18446744073709551616 by rw [Int.mul_assoc, Int.mul_comm 18446744073709551616, ← Int.mul_assoc]]
      omega
    rw [hN, Int.mul_ediv_mul_of_pos_left _ _ hp, Int.mul_comm _ (2 ^ s), Int.mul_comm y, Int.mul_emod_mul_of_pos _ _ hp]
    congr 2
    unfold shr
    rw [Int.toNat_natCast, Nat.min_eq_left (by show s ≤ 64; omega), Int.mul_ediv_cancel_left _ (by omega)]

def dg (p0 p1 : Int) (k : Nat) : Int := match k with | 0 => p0 / 4294967296 | 1 => bits .and .u64 p0 4294967295 | 2 => p1 / 4294967296 | _ => bits .and .u64 p1 4294967295
def qz (Q : Nat → Int) (j k : Nat) : Int := if j < k then Q j else 0
def DivInv (p0 p1 d : Int) (L Q : Nat → Int) (w : World) (a' : Act) (w' : World) : Prop :=
  ∃ (k : Nat) (u10 u11 u25 u26 u27 u28 u29 u30 u31 u32 u33 u34 u35 u36 u37 u38 u39 u40 u41 u42 u43 u44 u45 : Value), 1 ≤ k ∧ k ≤ 4 ∧ a' = { tmps := #[.agg #[.int .u64 p0, .int .u64 p1], .int .u64 d, .pointer (some ⟨w.heap.size, 0, none⟩), undef, .pointer (some ⟨w.heap.size + 1, 0, none⟩), .bool false, .pointer (some ⟨w.heap.size + 1 + 1, 0, none⟩), .pointer (some ⟨w.heap.size + 1 + 1 + 1, 0, none⟩), .int .u64 (L k), .int .i64 (k : Int), u10, u11, .pointer (some ⟨w.heap.size, 0, none⟩), .int .u64 p0, .int .u64 (p0 / 4294967296), .pointer (some ⟨w.heap.size, 0, none⟩), .int .u64 p0, .int .u64 (bits .and .u64 p0 4294967295), .pointer (some ⟨w.heap.size, 1, none⟩), .int .u64 p1, .int .u64 (p1 / 4294967296), .pointer (some ⟨w.heap.size, 1, none⟩), .int .u64 p1, .int .u64 (bits .and .u64 p1 4294967295), .agg #[.int .u64 (p0 / 4294967296), .int .u64 (bits .and .u64 p0 4294967295), .int .u64 (p1 / 4294967296), .int .u64 (bits .and .u64 p1 4294967295)], u25, u26, u27, u28, u29, u30, u31, u32, u33, u34, u35, u36, u37, u38, u39, u40, u41, u42, u43, u44, u45, undef, undef, undef, undef, undef, undef, undef, undef, undef, undef, undef, undef, undef, undef, undef], defers := [] } ∧
    w'.heap[w.heap.size + 1 + 1]? = some (.cells #[.int .u64 (p0 / 4294967296), .int .u64 (bits .and .u64 p0 4294967295), .int .u64 (p1 / 4294967296), .int .u64 (bits .and .u64 p1 4294967295)] 145 (0, 0)) ∧
    w'.heap[w.heap.size + 1 + 1 + 1]? = some (.cells #[.int .u64 (qz Q 0 k), .int .u64 (qz Q 1 k), .int .u64 (qz Q 2 k), .int .u64 (qz Q 3 k)] 145 (0, 0)) ∧
    w'.heap[w.heap.size + 1]? = some (.cells #[.int .u64 0, .int .u64 0] 89 (0, 0)) ∧ Below w.heap.size w w'
set_option maxHeartbeats 4000000 in
set_option maxRecDepth 100000 in
theorem divided_walk (p0 p1 d : Int) (L Q : Nat → Int) (r0 r1 : Int) (rb : Bool) (w : World) (hL0 : L 0 = 0) (hs : ∀ k, k < 4 → bits_Div64.f 20 (L k / 4294967296) (bits .or .u64 (IntKind.u64.wrap (L k * 4294967296)) (dg p0 p1 k)) d = some (Q k, L (k + 1)))
    (hr0 : bits .or .u64 (IntKind.u64.wrap (Q 0 * 4294967296)) (Q 1) = r0) (hr1 : bits .or .u64 (IntKind.u64.wrap (Q 2 * 4294967296)) (Q 3) = r1) (hrb : decide (0 < L 4) = rb) :
    Calls Try.prog 74 #[.agg #[.int .u64 p0, .int .u64 p1], .int .u64 d] w fun e w' => e = .returned (.tuple #[.agg #[.int .u64 r0, .int .u64 r1], .bool rb]) ∧ Below w.heap.size w w' := by
  have hu34 := Try.underlying89
  have hu47 := Try.underlying145
  have Hs := Aside0.mk hs; clear hs
  have HL0 := Aside0.mk hL0; clear hL0
  have H0 := Aside0.mk hr0; clear hr0
  have H1 := Aside0.mk hr1; clear hr1
  have Hb := Aside0.mk hrb; clear hrb
  go_enter Try.func74, Try.ntmps74
  go_wp2_with fail
  refine wp_scope_jumps 0 (DivInv p0 p1 d L Q w) (fun a' _ => 4 - (intOf (a'.tmps.getD 9 undef)).toNat) rfl ?_ ?_
  · have hs0 : bits_Div64.f 20 0 (bits .or .u64 0 (p0 / 4294967296)) d = some (Q 0, L (0 + 1)) := by
      have h := Hs.out 0 (by omega)
      rw [HL0.out] at h
      exact h
    have Hs0 := Aside0.mk hs0
    clear hs0
    go_wp2_with fail
    go_step3
    go_wp2_with fail
    refine (bits_Div64.calls 20 _ _ _ (Q 0) (L (0 + 1)) _ Hs0.out).mono ?_
    rintro e w2 ⟨rfl, ⟨n, rfl⟩⟩
    go_wp2_with fail
    go_step3
    refine ⟨rfl, 1, _, _, _, _, _, _, _, _, _, _, _, _, _, _, _, _, _, _, _, _, _, _, _, by omega, by omega, rfl, ?_, ?_, ?_, ?_⟩
    · refine blk_far (blk_drewN (blk_alloc ?_ _) n) (by simp) _
      have := blk_new ((w.alloc (.cells #[.int .u64 p0, .int .u64 p1] 89)).alloc (.cells #[.int .u64 0, .int .u64 0] 89)) (.cells #[.int .u64 (p0 / 4294967296), .int .u64 (bits .and .u64 p0 4294967295), .int .u64 (p1 / 4294967296), .int .u64 (bits .and .u64 p1 4294967295)] 145)
      simp only [World.size_alloc] at this
      exact this
    · refine blk_put (cs := #[.int .u64 0, .int .u64 0, .int .u64 0, .int .u64 0]) (blk_drewN ?_ n) 0 (.int .u64 (Q 0)) rfl
      have := blk_new (((w.alloc (.cells #[.int .u64 p0, .int .u64 p1] 89)).alloc (.cells #[.int .u64 0, .int .u64 0] 89)).alloc (.cells #[.int .u64 (p0 / 4294967296), .int .u64 (bits .and .u64 p0 4294967295), .int .u64 (p1 / 4294967296), .int .u64 (bits .and .u64 p1 4294967295)] 145)) (.cells #[.int .u64 0, .int .u64 0, .int .u64 0, .int .u64 0] 145)
      simp only [World.size_alloc] at this
      exact this
    · refine blk_far (blk_drewN (blk_alloc (blk_alloc ?_ _) _) n) (by simp) _
      have := blk_new (w.alloc (.cells #[.int .u64 p0, .int .u64 p1] 89)) (.cells #[.int .u64 0, .int .u64 0] 89)
      simp only [World.size_alloc] at this
      exact this
    · exact (pw_below_drewN (below_alloc (below_alloc (below_alloc (below_alloc (Below.refl _ _) _) _) _) _) n).setCell (show w.heap.size ≤ w.heap.size + 1 + 1 + 1 by omega) _
  · rintro a' w' ⟨k, u10, u11, u25, u26, u27, u28, u29, u30, u31, u32, u33, u34, u35, u36, u37, u38, u39, u40, u41, u42, u43, u44, u45, hk0, hk1, rfl, hD, hO, hR, hB⟩
    have HD := Aside0.mk hD
    have HO := Aside0.mk hO
    have HR := Aside0.mk hR
    have HB := Aside0.mk hB
    have hsz : Aside0 (w.heap.size ≤ w.heap.size + 1 + 1 + 1) := ⟨by omega⟩
    obtain ⟨d0, d1, d2, d3, _, _, _, _⟩ := cells4d hD
    obtain ⟨o0, o1, o2, o3, f0, f1, f2, f3⟩ := cells4d hO
    obtain ⟨r0c, r1c, g0, g1⟩ := cells2d hR
    clear hD hO hR hB
    obtain rfl | rfl | rfl | rfl : k = 1 ∨ k = 2 ∨ k = 3 ∨ k = 4 := by omega
    · have Hk : Aside0 (bits_Div64.f 20 (L 1 / 4294967296) (bits .or .u64 (IntKind.u64.wrap (L 1 * 4294967296)) (bits .and .u64 p0 4294967295)) d = some (Q 1, L 2)) := ⟨Hs.out 1 (by omega)⟩
      go_wp2_with fail
      refine (bits_Div64.calls 20 _ _ _ (Q 1) (L 2) _ Hk.out).mono ?_
      rintro e w2 ⟨rfl, ⟨n, rfl⟩⟩
      go_wp2_with fail
      go_step3
      refine ⟨rfl, ⟨2, _, _, _, _, _, _, _, _, _, _, _, _, _, _, _, _, _, _, _, _, _, _, _, by omega, by omega, rfl, blk_far (blk_drewN HD.out n) (by simp) _, blk_put (blk_drewN HO.out n) 1 _ rfl, blk_far (blk_drewN HR.out n) (by simp) _, (pw_below_drewN HB.out n).setCell hsz.out _⟩, by simp [intOf]⟩
    · have Hk : Aside0 (bits_Div64.f 20 (L 2 / 4294967296) (bits .or .u64 (IntKind.u64.wrap (L 2 * 4294967296)) (p1 / 4294967296)) d = some (Q 2, L 3)) := ⟨Hs.out 2 (by omega)⟩
      go_wp2_with fail
      refine (bits_Div64.calls 20 _ _ _ (Q 2) (L 3) _ Hk.out).mono ?_
      rintro e w2 ⟨rfl, ⟨n, rfl⟩⟩
      go_wp2_with fail
      go_step3
      refine ⟨rfl, ⟨3, _, _, _, _, _, _, _, _, _, _, _, _, _, _, _, _, _, _, _, _, _, _, _, by omega, by omega, rfl, blk_far (blk_drewN HD.out n) (by simp) _, blk_put (blk_drewN HO.out n) 2 _ rfl, blk_far (blk_drewN HR.out n) (by simp) _, (pw_below_drewN HB.out n).setCell hsz.out _⟩, by simp [intOf]⟩
    · have Hk : Aside0 (bits_Div64.f 20 (L 3 / 4294967296) (bits .or .u64 (IntKind.u64.wrap (L 3 * 4294967296)) (bits .and .u64 p1 4294967295)) d = some (Q 3, L 4)) := ⟨Hs.out 3 (by omega)⟩
      go_wp2_with fail
      refine (bits_Div64.calls 20 _ _ _ (Q 3) (L 4) _ Hk.out).mono ?_
      rintro e w2 ⟨rfl, ⟨n, rfl⟩⟩
      go_wp2_with fail
      go_step3
      refine ⟨rfl, ⟨4, _, _, _, _, _, _, _, _, _, _, _, _, _, _, _, _, _, _, _, _, _, _, _, by omega, by omega, rfl, blk_far (blk_drewN HD.out n) (by simp) _, blk_put (blk_drewN HO.out n) 3 _ rfl, blk_far (blk_drewN HR.out n) (by simp) _, (pw_below_drewN HB.out n).setCell hsz.out _⟩, by simp [intOf]⟩
    · go_wp2_with fail
      simp only [Exit.jump]
      refine bodyPost_ret (results_ct rfl _ _ (w.heap.size + 1) 89 #[.int .u64 r0, .int .u64 r1] (0, 0) _ rfl ?_ Try.underlying89 rfl (by kernel_rfl)) rfl ?_
      · refine blk_put (cs := #[.int .u64 r0, .int .u64 0]) (blk_put (cs := #[.int .u64 0, .int .u64 0]) HR.out 0 _ ?_) 1 _ ?_
        · rw [← H0.out]; rfl
        · rw [← H1.out]; rfl
      · refine ⟨?_, (HB.out.setCell (show w.heap.size ≤ w.heap.size + 1 by omega) _).setCell (show w.heap.size ≤ w.heap.size + 1 by omega) _⟩
        rw [← Hb.out]
        rfl
theorem dg_range (p0 p1 : Int) (h0 : 0 ≤ p0) (h1 : p0 < 18446744073709551616) (g0 : 0 ≤ p1) (g1 : p1 < 18446744073709551616) (k : Nat) : 0 ≤ dg p0 p1 k ∧ dg p0 p1 k < 4294967296 := by
  unfold dg
  rcases k with _ | _ | _ | k
  · simp only; omega
  · simp only [low32 p0 h0 h1]; omega
  · simp only; omega
  · simp only [low32 p1 g0 g1]; omega
theorem digit_step (L D d : Int) (L0 : 0 ≤ L) (L1 : L < d) (d1 : d < 18446744073709551616) (D0 : 0 ≤ D) (D1 : D < 4294967296) :
    bits_Div64.f 20 (L / 4294967296) (bits .or .u64 (IntKind.u64.wrap (L * 4294967296)) D) d = some ((L * 4294967296 + D) / d, (L * 4294967296 + D) % d) := by
  rw [or32 _ D (by rw [mod64]; omega) (by rw [mod64]; omega) (by rw [mod64]; omega) D0 D1]
  rw [Div64_eq _ _ d (by omega) (by omega) (by rw [mod64]; omega) (by rw [mod64]; omega) d1]
  have e : L / 4294967296 * 18446744073709551616 + (IntKind.u64.wrap (L * 4294967296) + D) = L * 4294967296 + D := by rw [mod64]; omega
  rw [e]
def lf (p0 p1 d : Int) : Nat → Int
  | 0 => 0
  | k + 1 => (lf p0 p1 d k * 4294967296 + dg p0 p1 k) % d
def qt (p0 p1 d : Int) (k : Nat) : Int := (lf p0 p1 d k * 4294967296 + dg p0 p1 k) / d
theorem lf_range (p0 p1 d : Int) (d0 : 1 ≤ d) (k : Nat) : 0 ≤ lf p0 p1 d k ∧ lf p0 p1 d k < d := by
  cases k with
  | zero => unfold lf; omega
  | succ k => unfold lf; exact ⟨Int.emod_nonneg _ (by omega), Int.emod_lt_of_pos _ (by omega)⟩
theorem divided_calls (p0 p1 d : Int) (w : World) (h0 : 0 ≤ p0) (h1 : p0 < 18446744073709551616) (g0 : 0 ≤ p1) (g1 : p1 < 18446744073709551616) (d0 : 1 ≤ d) (d1 : d < 18446744073709551616) :
    Calls Try.prog 74 #[.agg #[.int .u64 p0, .int .u64 p1], .int .u64 d] w fun e w' => e = .returned (.tuple #[.agg #[.int .u64 ((p0 * 18446744073709551616 + p1) / d / 18446744073709551616), .int .u64 ((p0 * 18446744073709551616 + p1) / d % 18446744073709551616)], .bool (decide (0 < (p0 * 18446744073709551616 + p1) % d))]) ∧ Below w.heap.size w w' := by
  have hl := lf_range p0 p1 d d0
  have hd := dg_range p0 p1 h0 h1 g0 g1
  have hq : ∀ k, 0 ≤ qt p0 p1 d k ∧ qt p0 p1 d k < 4294967296 ∧ d * qt p0 p1 d k + lf p0 p1 d (k + 1) = lf p0 p1 d k * 4294967296 + dg p0 p1 k := by
    intro k
    have l := hl k
    have g := hd k
    refine ⟨Int.ediv_nonneg (by omega) (by omega), (Int.ediv_lt_iff_lt_mul (by omega)).2 (by omega), ?_⟩
    show d * ((lf p0 p1 d k * 4294967296 + dg p0 p1 k) / d) + (lf p0 p1 d k * 4294967296 + dg p0 p1 k) % d = _
    exact Int.mul_ediv_add_emod _ _
  have u := (Int.ediv_emod_unique (a := p0 * 18446744073709551616 + p1) (r := lf p0 p1 d 4) (q := (qt p0 p1 d 0 * 4294967296 + qt p0 p1 d 1) * 18446744073709551616 + (qt p0 p1 d 2 * 4294967296 + qt p0 p1 d 3)) (b := d) (by omega)).2 ⟨by
    have e0 : d * qt p0 p1 d 0 + lf p0 p1 d 1 = lf p0 p1 d 0 * 4294967296 + dg p0 p1 0 := (hq 0).2.2
    have e1 : d * qt p0 p1 d 1 + lf p0 p1 d 2 = lf p0 p1 d 1 * 4294967296 + dg p0 p1 1 := (hq 1).2.2
    have e2 : d * qt p0 p1 d 2 + lf p0 p1 d 3 = lf p0 p1 d 2 * 4294967296 + dg p0 p1 2 := (hq 2).2.2
    have e3 : d * qt p0 p1 d 3 + lf p0 p1 d 4 = lf p0 p1 d 3 * 4294967296 + dg p0 p1 3 := (hq 3).2.2
    have z0 : lf p0 p1 d 0 = 0 := rfl
    have c0 : dg p0 p1 0 = p0 / 4294967296 := rfl
    have c1 : dg p0 p1 1 = p0 % 4294967296 := low32 p0 h0 h1
    have c2 : dg p0 p1 2 = p1 / 4294967296 := rfl
    have c3 : dg p0 p1 3 = p1 % 4294967296 := low32 p1 g0 g1
    rw [z0, c0] at e0
    rw [c1] at e1
    rw [c2] at e2
    rw [c3] at e3
    have ex : d * ((qt p0 p1 d 0 * 4294967296 + qt p0 p1 d 1) * 18446744073709551616 + (qt p0 p1 d 2 * 4294967296 + qt p0 p1 d 3)) = (d * qt p0 p1 d 0 * 4294967296 + d * qt p0 p1 d 1) * 18446744073709551616 + (d * qt p0 p1 d 2 * 4294967296 + d * qt p0 p1 d 3) := by
      simp only [Int.mul_add, Int.add_mul, Int.mul_assoc]
    rw [ex]
    generalize d * qt p0 p1 d 0 = y0 at *
    generalize d * qt p0 p1 d 1 = y1 at *
    generalize d * qt p0 p1 d 2 = y2 at *
    generalize d * qt p0 p1 d 3 = y3 at *
    omega, (hl 4).1, (hl 4).2⟩
  rw [u.1, u.2]
  have q0 := hq 0
  have q1 := hq 1
  have q2 := hq 2
  have q3 := hq 3
  refine divided_walk p0 p1 d (lf p0 p1 d) (qt p0 p1 d) _ _ _ w rfl (fun k hk => digit_step _ _ d (hl k).1 (hl k).2 d1 (hd k).1 (hd k).2) ?_ ?_ rfl
  · rw [or32 _ _ (by rw [mod64]; omega) (by rw [mod64]; omega) (by rw [mod64]; omega) q1.1 q1.2.1, mod64]
    omega
  · rw [or32 _ _ (by rw [mod64]; omega) (by rw [mod64]; omega) (by rw [mod64]; omega) q3.1 q3.2.1, mod64]
    omega

theorem add64_law (x : Int) (hx : 0 ≤ x) (w : World) : (callFunc 75 #[.int .u64 x, .int .u64 1, .int .u64 0]).run Try.prog w = .ok (.value (.tuple #[.int .u64 ((x + 1) % 18446744073709551616), .int .u64 ((x + 1) / 18446744073709551616)])) w := by
  rw [run_callFunc_extern Try.func75 (by kernel_rfl) (by kernel_rfl) (by kernel_rfl) (e := add64Entry) (by kernel_rfl), run_add64 x 1 0 hx (by omega) (by omega) (by omega)]
  simp only [Result.andThen, Int.add_zero]
set_option maxHeartbeats 4000000 in
set_option maxRecDepth 100000 in
theorem Scale_walk1 (a b d sa sb h l q0 q1 r1 : Int) (below left r2 : Bool) (w : World) (hd : decide (d < 1) = false) (hsa : exact_size.f a = some sa) (hsb : exact_size.f b = some sb) (hm : bits_Mul64.f sa sb = some (h, l)) (hb : decide (bits .xor .i64 a b < 0) = below)
    (hdiv : ∀ w : World, Calls Try.prog 74 #[.agg #[.int .u64 h, .int .u64 l], .int .u64 (IntKind.u64.wrap d)] w fun e w' => e = .returned (.tuple #[.agg #[.int .u64 q0, .int .u64 q1], .bool left]) ∧ Below w.heap.size w w')
    (h0 : 0 ≤ q0) (g0 : 0 ≤ q1) (g1 : q1 < 18446744073709551616) (hc : IntKind.u64.wrap (q0 + (q1 + 1) / 18446744073709551616) = q0 + (q1 + 1) / 18446744073709551616)
    (hs : sgn (q0 * 18446744073709551616 + q1 + if (below && left) = true then 1 else 0) below = (r1, r2)) :
    Calls Try.prog 48 #[.int .i64 a, .int .i64 b, .int .i64 d] w fun e w' => e = .returned (.tuple #[.int .i64 r1, .bool r2]) ∧ Below w.heap.size w w' := by
  have hu34 := Try.underlying89
  have Ha := Aside0.mk hsa; clear hsa
  have Hb := Aside0.mk hsb; clear hsb
  have Hm := Aside0.mk hm; clear hm
  have Hs := Aside0.mk hs; clear hs
  have Hd := Aside0.mk hdiv; clear hdiv
  have Hc := Aside0.mk hc; clear hc
  have ha := add64_law q1 g0
  cases below <;> cases left
  all_goals
    go_enter Try.func48, Try.ntmps48
    go_wp2_with fail
    refine (exact_size.calls a sa _ Ha.out).mono ?_
    rintro e w1 ⟨rfl, hb1⟩
    go_wp2_with fail
    refine (exact_size.calls b sb _ Hb.out).mono ?_
    rintro e w2 ⟨rfl, hb2⟩
    go_wp2_with fail
    refine (bits_Mul64.calls sa sb h l _ Hm.out).mono ?_
    rintro e w3 ⟨rfl, ⟨n3, rfl⟩⟩
    go_wp2_with fail
    refine (Hd.out _).mono ?_
    rintro e w4 ⟨rfl, hb4⟩
    have hB : Below w.heap.size w w4 := below_step (pw_below_drewN (below_step hb1 hb2) n3) hb4
    clear hb1 hb2 hb4
    go_wp2_with fail
  · refine (signed_calls q0 q1 r1 _ r2 _ h0 g0 g1 (by have := Hs.out; simpa using this)).mono ?_
    rintro e w5 ⟨rfl, hb5⟩
    go_wp2_with fail
    go_ret2
    exact ⟨rfl, below_step (below_alloc hB _) hb5⟩
  · refine (signed_calls q0 q1 r1 _ r2 _ h0 g0 g1 (by have := Hs.out; simpa using this)).mono ?_
    rintro e w5 ⟨rfl, hb5⟩
    go_wp2_with fail
    go_ret2
    exact ⟨rfl, below_step (below_alloc hB _) hb5⟩
  · refine (signed_calls q0 q1 r1 _ r2 _ h0 g0 g1 (by have := Hs.out; simpa using this)).mono ?_
    rintro e w5 ⟨rfl, hb5⟩
    go_wp2_with fail
    go_ret2
    exact ⟨rfl, below_step (below_alloc hB _) hb5⟩
  · rw [Hc.out]
    refine (signed_calls (q0 + (q1 + 1) / 18446744073709551616) ((q1 + 1) % 18446744073709551616) r1 true r2 _ (by omega) (by omega) (by omega) (by
      have h := Hs.out
      simp only [Bool.and_true, Bool.and_self, if_true] at h
      rw [← h]
      congr 1
      omega)).mono ?_
    rintro e w5 ⟨rfl, hb5⟩
    go_wp2_with fail
    go_ret2
    exact ⟨rfl, below_step (below_alloc hB _) hb5⟩
def exact_Scale.f (a0 : Int) (a1 : Int) (a2 : Int) : Option (Int × Bool) := if a2 < 1 then some (0, false) else if In64 a0 ∧ In64 a1 ∧ In64 a2 then some (fits (a0 * a1 / a2)) else none
set_option maxHeartbeats 4000000 in
set_option maxRecDepth 100000 in
theorem xScale_none (a b d : Int) (w : World) (hd : decide (d < 1) = true) :
    Calls Try.prog 48 #[.int .i64 a, .int .i64 b, .int .i64 d] w fun e w' => e = .returned (.tuple #[.int .i64 0, .bool false]) ∧ Below w.heap.size w w' := by
  go_enter Try.func48, Try.ntmps48
  go_wp2
  go_ret2
  exact ⟨rfl, Below.refl _ _⟩
theorem exact_Scale.calls (a0 : Int) (a1 : Int) (a2 : Int) (r1 : Int) (r2 : Bool) (w : World) (h : exact_Scale.f a0 a1 a2 = some (r1, r2)) :
    Calls Try.prog 48 #[.int .i64 a0, .int .i64 a1, .int .i64 a2] w fun e w' => e = .returned (.tuple #[.int .i64 r1, .bool r2]) ∧ Below w.heap.size w w' := by
  unfold exact_Scale.f at h
  by_cases hd : a2 < 1
  · rw [if_pos hd] at h
    simp only [Option.some.injEq, Prod.mk.injEq] at h
    obtain ⟨rfl, rfl⟩ := h
    exact xScale_none a0 a1 a2 w (by simpa using hd)
  · rw [if_neg hd] at h
    by_cases hi : In64 a0 ∧ In64 a1 ∧ In64 a2
    · rw [if_pos hi] at h
      have h := Option.some.inj h
      have ha := hi.1.def
      have hb := hi.2.1.def
      have hc := hi.2.2.def
      obtain ⟨P, hP, hP0, hP1⟩ := signs a0 a1
      have hP2 := abs_bound a0 a1 hi.1 hi.2.1
      have hm := Mul64_eq (if a0 < 0 then -a0 else a0) (if a1 < 0 then -a1 else a1) (by split <;> omega) (by split <;> omega) (by split <;> omega) (by split <;> omega)
      rw [hP] at hm hP2
      have hu : IntKind.u64.wrap a2 = a2 := by rw [mod64]; omega
      have hdiv := fun w => divided_calls (P / 18446744073709551616) (P % 18446744073709551616) a2 w (by omega) (by omega) (by omega) (by omega) (by omega) (by omega)
      rw [show P / 18446744073709551616 * 18446744073709551616 + P % 18446744073709551616 = P by omega] at hdiv
      have q0 : 0 ≤ P / a2 := Int.ediv_nonneg hP0 (by omega)
      have q1 : P / a2 ≤ P := Int.ediv_le_self _ hP0
      have hdm := Int.mul_ediv_add_emod P a2
      have r0 := Int.emod_nonneg P (b := a2) (by omega)
      have r1' := Int.emod_lt_of_pos P (b := a2) (by omega)
      refine Scale_walk1 a0 a1 a2 _ _ _ _ _ _ r1 _ (decide (0 < P % a2)) r2 w (decide_eq_false hd) (xsize_eq a0 ha.1 ha.2) (xsize_eq a1 hb.1 hb.2) hm (xbelow a0 a1 ha.1 ha.2 hb.1 hb.2) (by rw [hu]; exact hdiv) (by omega) (by omega) (by omega) (by rw [mod64]; omega) ?_
      rw [← h, hP1, show P / a2 / 18446744073709551616 * 18446744073709551616 + P / a2 % 18446744073709551616 = P / a2 by omega]
      generalize hq : P / a2 = q at *
      generalize hr : P % a2 = r at *
      cases hbel : (decide (a0 < 0) != decide (a1 < 0)) with
      | false => simp only [Bool.false_and, Bool.false_eq_true, if_false, Int.add_zero, sgn, hq]
      | true =>
        by_cases hz : 0 < r
        · have hfl : -P / a2 = -(q + 1) := by
            refine ((Int.ediv_emod_unique (a := -P) (r := a2 - r) (q := -(q + 1)) (b := a2) (by omega)).2 ⟨?_, by omega, by omega⟩).1
            rw [Int.mul_neg, Int.mul_add, Int.mul_one]
            omega
          simp only [hz, decide_true, Bool.and_self, if_true, sgn, hfl]
        · have hfl : -P / a2 = -q := by
            refine ((Int.ediv_emod_unique (a := -P) (r := 0) (q := -q) (b := a2) (by omega)).2 ⟨?_, by omega, by omega⟩).1
            rw [Int.mul_neg]
            omega
          simp only [hz, decide_false, Bool.and_false, Bool.false_eq_true, if_false, if_true, sgn, hfl, Int.add_zero]
    · rw [if_neg hi] at h
      exact absurd h (by simp)

/-! ### exact_Add: function 14 -/
def exact_Add.f (a0 : Int) (a1 : Int) : Option (Int × Bool) := if (Go.bits .and .i64 (Go.bits .xor .i64 a0 (wrap64 (a0 + a1))) (Go.bits .xor .i64 a1 (wrap64 (a0 + a1)))) < 0 then (some (0, false)) else (some (wrap64 (a0 + a1), true))
set_option maxHeartbeats 8000000 in
set_option maxRecDepth 100000 in
theorem exact_Add.calls (a0 : Int) (a1 : Int) (r1 : Int) (r2 : Bool) (w : World) (h : exact_Add.f a0 a1 = some (r1, r2)) :
    Calls Try.prog 14 #[.int .i64 a0, .int .i64 a1] w fun e w' => e = .returned (.tuple #[.int .i64 r1, .bool r2]) ∧ Drawn0 w w' := by
  have H : (if (Go.bits .and .i64 (Go.bits .xor .i64 a0 (wrap64 (a0 + a1))) (Go.bits .xor .i64 a1 (wrap64 (a0 + a1)))) < 0 then (some (0, false)) else (some (wrap64 (a0 + a1), true))) = some (r1, r2) := h
  clear h
  by_cases c3 : (Go.bits .and .i64 (Go.bits .xor .i64 a0 (wrap64 (a0 + a1))) (Go.bits .xor .i64 a1 (wrap64 (a0 + a1)))) < 0
  · rw [if_pos c3] at H
    have c3b0 : decide ((Go.bits .and .i64 (Go.bits .xor .i64 a0 (wrap64 (a0 + a1))) (Go.bits .xor .i64 a1 (wrap64 (a0 + a1)))) < 0) = true := decide_eq_true c3
    clear c3
    simp only [Option.some.injEq, Prod.mk.injEq] at H
    obtain ⟨rfl, rfl⟩ := H
    go_enter Try.func14, Try.ntmps14
    go_wp2
    go_ret2
    exact ⟨by first | rfl | (simp; done) | (simp [*]; done), by repeat (first | exact Drawn0.refl _ | apply Drawn0.step)⟩
  · rw [if_neg c3] at H
    have c3b0 : decide ((Go.bits .and .i64 (Go.bits .xor .i64 a0 (wrap64 (a0 + a1))) (Go.bits .xor .i64 a1 (wrap64 (a0 + a1)))) < 0) = false := decide_eq_false c3
    clear c3
    simp only [Option.some.injEq, Prod.mk.injEq] at H
    obtain ⟨rfl, rfl⟩ := H
    go_enter Try.func14, Try.ntmps14
    go_wp2
    go_ret2
    exact ⟨by first | rfl | (simp; done) | (simp [*]; done), by repeat (first | exact Drawn0.refl _ | apply Drawn0.step)⟩

/-! ### exact_Dist: function 19 -/
def exact_Dist.f (a0 : Int) (a1 : Int) : Option (Int × Bool) := (exact_Sub.f (mx a0 a1) (mn a0 a1)).bind fun bt103 => (some (bt103.1, bt103.2))
set_option maxHeartbeats 8000000 in
set_option maxRecDepth 100000 in
theorem exact_Dist.calls (a0 : Int) (a1 : Int) (r1 : Int) (r2 : Bool) (w : World) (h : exact_Dist.f a0 a1 = some (r1, r2)) :
    Calls Try.prog 19 #[.int .i64 a0, .int .i64 a1] w fun e w' => e = .returned (.tuple #[.int .i64 r1, .bool r2]) ∧ Below w.heap.size w w' := by
  have HB := Aside0.mk (Below.refl w.heap.size w)
  have H : ((exact_Sub.f (mx a0 a1) (mn a0 a1)).bind fun bt103 => (some (bt103.1, bt103.2))) = some (r1, r2) := h
  clear h
  obtain ⟨ji3, hji3⟩ : ∃ j_ : Int, (mx a0 a1) = j_ := ⟨_, rfl⟩
  replace H : ((exact_Sub.f (ji3) (mn a0 a1)).bind fun bt103 => (some (bt103.1, bt103.2))) = some (r1, r2) := by first | (rw [hji3] at H; exact H) | (simp only [hji3] at H ⊢; exact H)
  have hji3_ : (if a0 < a1 then a1 else a0) = ji3 := hji3
  obtain ⟨ji4, hji4⟩ : ∃ j_ : Int, (mn a0 a1) = j_ := ⟨_, rfl⟩
  replace H : ((exact_Sub.f (ji3) (ji4)).bind fun bt103 => (some (bt103.1, bt103.2))) = some (r1, r2) := by first | (rw [hji4] at H; exact H) | (simp only [hji4] at H ⊢; exact H)
  have hji4_ : (if a1 < a0 then a1 else a0) = ji4 := hji4
  replace H := Option.bind_eq_some_iff.mp H
  obtain ⟨⟨t103, t104⟩, A50, H⟩ := H
  replace H : (some (t103, t104)) = some (r1, r2) := H
  have A5 := Aside0.mk A50
  clear A50
  simp only [Option.some.injEq, Prod.mk.injEq] at H
  obtain ⟨rfl, rfl⟩ := H
  go_enter Try.func19, Try.ntmps19
  go_wp2_with (first | ((with_reducible refine gate_callee (f := 51) rfl ?_); refine goesL_ (some 12) rfl rfl Try.func51 (by kernel_rfl) rfl #[.int .i64 ji3, .int .i64 ji4] rfl (by (try simp only [List.map_toArray, List.map_cons, List.map_nil]); first | done | (simp only [hji3, hji4]; rfl) | rfl | (simp only [List.length_drop, List.length_take]; rfl)) ?_; (with_reducible refine (exact_Sub.calls ji3 ji4 t103 t104 _ A5.out).mono ?_); rintro e w' ⟨rfl, ⟨nd, rfl⟩⟩; refine ⟨_, rfl, ?_⟩))
  go_ret2
  exact ⟨by first | rfl | (simp [errW_none, errW_some] <;> rfl) | (simp only [← hji3, ← hji4]; first | rfl | (simp [errW_none, errW_some] <;> rfl)) | (simp [*, errW_none, errW_some] <;> rfl), by repeat (first | (with_reducible first | exact HB.out | apply below_alloc | apply pw_below_drewN | apply below_drew1) | exact HB.out)⟩

/-! ### exact_Mul: function 12 -/
set_option maxHeartbeats 2000000 in
set_option maxRecDepth 100000 in
theorem Mul_walk (a b sa sb h l r1 : Int) (below r2 : Bool) (w : World) (hsa : exact_size.f a = some sa) (hsb : exact_size.f b = some sb) (hm : bits_Mul64.f sa sb = some (h, l)) (hb : decide (bits .xor .i64 a b < 0) = below)
    (h0 : 0 ≤ h) (g0 : 0 ≤ l) (g1 : l < 18446744073709551616) (hs : sgn (h * 18446744073709551616 + l) below = (r1, r2)) :
    Calls Try.prog 12 #[.int .i64 a, .int .i64 b] w fun e w' => e = .returned (.tuple #[.int .i64 r1, .bool r2]) ∧ Below w.heap.size w w' := by
  have hu34 := Try.underlying89
  have Ha := Aside0.mk hsa; clear hsa
  have Hb := Aside0.mk hsb; clear hsb
  have Hm := Aside0.mk hm; clear hm
  have Hs := Aside0.mk hs; clear hs
  go_enter Try.func12, Try.ntmps12
  go_wp2_with fail
  refine (exact_size.calls a sa _ Ha.out).mono ?_
  rintro e w1 ⟨rfl, hb1⟩
  go_wp2_with fail
  refine (exact_size.calls b sb _ Hb.out).mono ?_
  rintro e w2 ⟨rfl, hb2⟩
  go_wp2_with fail
  refine (bits_Mul64.calls sa sb h l _ Hm.out).mono ?_
  rintro e w3 ⟨rfl, ⟨n3, rfl⟩⟩
  go_wp2_with fail
  refine (signed_calls h l r1 below r2 _ h0 g0 g1 Hs.out).mono ?_
  rintro e w4 ⟨rfl, hb4⟩
  go_wp2_with fail
  go_ret2
  exact ⟨rfl, below_step (pw_below_drewN (below_step hb1 hb2) n3) hb4⟩
def exact_Mul.f (a0 : Int) (a1 : Int) : Option (Int × Bool) := if In64 a0 ∧ In64 a1 then some (fits (a0 * a1)) else none
theorem exact_Mul.calls (a0 : Int) (a1 : Int) (r1 : Int) (r2 : Bool) (w : World) (h : exact_Mul.f a0 a1 = some (r1, r2)) :
    Calls Try.prog 12 #[.int .i64 a0, .int .i64 a1] w fun e w' => e = .returned (.tuple #[.int .i64 r1, .bool r2]) ∧ Below w.heap.size w w' := by
  unfold exact_Mul.f at h
  by_cases hi : In64 a0 ∧ In64 a1
  · rw [if_pos hi] at h
    have h := Option.some.inj h
    have ha := hi.1.def
    have hb := hi.2.def
    obtain ⟨P, hP, hP0, hP1⟩ := signs a0 a1
    have hP2 := abs_bound a0 a1 hi.1 hi.2
    have hm := Mul64_eq (if a0 < 0 then -a0 else a0) (if a1 < 0 then -a1 else a1) (by split <;> omega) (by split <;> omega) (by split <;> omega) (by split <;> omega)
    rw [hP] at hm hP2
    refine Mul_walk a0 a1 _ _ _ _ r1 _ r2 w (xsize_eq a0 ha.1 ha.2) (xsize_eq a1 hb.1 hb.2) hm (xbelow a0 a1 ha.1 ha.2 hb.1 hb.2) (by omega) (by omega) (by omega) ?_
    rw [← h, hP1, sgn, show P / 18446744073709551616 * 18446744073709551616 + P % 18446744073709551616 = P by omega]
  · rw [if_neg hi] at h
    exact absurd h (by simp)

/-! ### exact_Clamp: function 37 -/
def exact_Clamp.f (a0 : Int) (a1 : Int) (a2 : Int) : Option (Int) := if a0 < a1 then (some a1) else (some (mn a0 a2))
set_option maxHeartbeats 8000000 in
set_option maxRecDepth 100000 in
theorem exact_Clamp.calls (a0 : Int) (a1 : Int) (a2 : Int) (r : Int) (w : World) (h : exact_Clamp.f a0 a1 a2 = some r) :
    Calls Try.prog 37 #[.int .i64 a0, .int .i64 a1, .int .i64 a2] w fun e w' => e = .returned (.int .i64 r) ∧ Below w.heap.size w w' := by
  have HB := Aside0.mk (Below.refl w.heap.size w)
  have H : (if a0 < a1 then (some a1) else (some (mn a0 a2))) = some r := h
  clear h
  by_cases c4 : a0 < a1
  · rw [if_pos c4] at H
    have c4b0 : decide (a0 < a1) = true := decide_eq_true c4
    clear c4
    obtain rfl := Option.some.inj H
    go_enter Try.func37, Try.ntmps37
    go_wp2
    go_ret
    exact ⟨by first | rfl | (simp [errW_none, errW_some] <;> rfl) | (simp [*, errW_none, errW_some] <;> rfl), by repeat (first | (with_reducible first | exact HB.out | apply below_alloc | apply pw_below_drewN | apply below_drew1) | exact HB.out)⟩
  · rw [if_neg c4] at H
    have c4b0 : decide (a0 < a1) = false := decide_eq_false c4
    clear c4
    obtain ⟨ji5, hji5⟩ : ∃ j_ : Int, (mn a0 a2) = j_ := ⟨_, rfl⟩
    replace H : (some ji5) = some r := by first | (rw [hji5] at H; exact H) | (simp only [hji5] at H ⊢; exact H)
    have hji5_ : (if a2 < a0 then a2 else a0) = ji5 := hji5
    obtain rfl := Option.some.inj H
    go_enter Try.func37, Try.ntmps37
    go_wp2
    go_ret
    exact ⟨by first | rfl | (simp [errW_none, errW_some] <;> rfl) | (simp only [← hji5]; first | rfl | (simp [errW_none, errW_some] <;> rfl)) | (simp [*, errW_none, errW_some] <;> rfl), by repeat (first | (with_reducible first | exact HB.out | apply below_alloc | apply pw_below_drewN | apply below_drew1) | exact HB.out)⟩

/-! ### clock_within: function 76 -/
def clock_within.f (a0 : Int) : Option (Bool) := (exact_Clamp.f a0 (-1152921504606846976) 1152921504606846976).bind fun t105 => (some (a0 == t105))
set_option maxHeartbeats 8000000 in
set_option maxRecDepth 100000 in
theorem clock_within.calls (a0 : Int) (r : Bool) (w : World) (h : clock_within.f a0 = some r) :
    Calls Try.prog 76 #[.int .i64 a0] w fun e w' => e = .returned (.bool r) ∧ Below w.heap.size w w' := by
  have HB := Aside0.mk (Below.refl w.heap.size w)
  have H : ((exact_Clamp.f a0 (-1152921504606846976) 1152921504606846976).bind fun t105 => (some (a0 == t105))) = some r := h
  clear h
  replace H := Option.bind_eq_some_iff.mp H
  obtain ⟨t105, A20, H⟩ := H
  replace H : (some (a0 == t105)) = some r := H
  have A2 := Aside0.mk A20
  clear A20
  obtain rfl := Option.some.inj H
  go_enter Try.func76, Try.ntmps76
  go_wp2_with (first | ((with_reducible refine gate_callee (f := 37) rfl ?_); refine goesL_ (some 5) rfl rfl Try.func37 (by kernel_rfl) rfl #[.int .i64 a0, .int .i64 (-1152921504606846976), .int .i64 1152921504606846976] rfl (by (try simp only [List.map_toArray, List.map_cons, List.map_nil]); first | done | rfl | (simp only [List.length_drop, List.length_take]; rfl)) ?_; (with_reducible refine (exact_Clamp.calls a0 (-1152921504606846976) 1152921504606846976 t105 _ A2.out).mono ?_); rintro e w3 ⟨rfl, hb⟩; refine ⟨_, rfl, ?_⟩; have n0_ := Aside0.mk (below_step (by repeat (first | (with_reducible first | exact HB.out | apply below_alloc | apply pw_below_drewN | apply below_drew1) | exact HB.out)) hb); clear HB; have HB := n0_; clear n0_; (try clear hb); (try clear hb2); (try clear hk); (try clear hi)))
  go_ret
  exact ⟨by first | rfl | (simp [errW_none, errW_some] <;> rfl) | (simp [*, errW_none, errW_some] <;> rfl), by repeat (first | (with_reducible first | exact HB.out | apply below_alloc | apply pw_below_drewN | apply below_drew1) | exact HB.out)⟩

/-- THE ONE PURE STATEMENT of clock_within: yours. -/
def clock_within.Pure : Prop := ∀ (a0 : Int), (Lit.int .i64 a0).wf = true → clock_within.f a0 = some true
theorem clock_within.walk (P : clock_within.Pure) (a0 : Int) (w : World) (w0 : (Lit.int .i64 a0).wf = true) :
    Calls Try.prog 76 #[.int .i64 a0] w fun e w' => e = .returned (.bool true) ∧ Below w.heap.size w w' := by
  have h := P a0 w0
  refine (clock_within.calls a0 true w h).mono ?_
  rintro e w' ⟨rfl, hd⟩
  exact ⟨rfl, hd⟩

end Go.Proofs.Ytgnkmpgnlpjglaa.P
