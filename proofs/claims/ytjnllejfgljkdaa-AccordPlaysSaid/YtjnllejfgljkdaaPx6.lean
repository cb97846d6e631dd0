/- What is proved here: each Go function that this text names answers as the Lean function of its name says, whenever that one answers; and a law's row follows from its plain statement. Laid by a program of the session over the kit's print. -/
import Derived.Test.YtjnllejfgljkdaaPx0
import Derived.Test.YtjnllejfgljkdaaPx4
import Derived.Test.YtjnllejfgljkdaaPx5
namespace Go.Proofs.Ytjnllejfgljkdaa.P
open Go.RowKit Go.Proofs.YtjnllejfgljkdaaW.PrintWords Go.Proofs.YtjnllejfgljkdaaW.PrintLast Go.Proofs.YtjnllejfgljkdaaW.PrintMore
attribute [local go_sem] max2_int min2_int max_two min_two max_three min_three max_four min_four   -- for this text's walks alone
set_option linter.unusedVariables false
set_option linter.unusedSimpArgs false

/-! ### bellbuoyref01_Scale: function 71 -/
theorem double_eq (hi lo bit : Int) (h0 : 0 ≤ hi) (h1 : hi < 9223372036854775808) (l0 : 0 ≤ lo) (l1 : lo < 18446744073709551616) (b0 : 0 ≤ bit) (b1 : bit ≤ 1) :
    bellbuoyref01_double.f hi lo bit = some (2 * hi + lo / 9223372036854775808, (2 * lo) % 18446744073709551616 + bit) := by
  unfold bellbuoyref01_double.f
  rw [u64w, u64w, or_even _ _ (by omega) (by omega) (by omega) (by omega) (by omega), or_even _ _ (by omega) (by omega) (by omega) (by omega) (by omega)]
  simp only [Option.some.injEq, Prod.mk.injEq, and_true, true_and]
  omega
theorem plus_eq (ah al bh bl : Int) (h0 : 0 ≤ ah) (h1 : 0 ≤ al) (h2 : al < 18446744073709551616) (h3 : 0 ≤ bh) (h4 : 0 ≤ bl) (h5 : bl < 18446744073709551616) (h6 : ah + bh + 1 < 18446744073709551616 ∨ ah + bh < 18446744073709551616 ∧ al + bl < 18446744073709551616) :
    bellbuoyref01_plus.f ah al bh bl = some (ah + bh + (al + bl) / 18446744073709551616, (al + bl) % 18446744073709551616) := by
  unfold bellbuoyref01_plus.f
  simp only [u64w]
  by_cases hc : al + bl < 18446744073709551616
  · have e1 : (al + bl) / 18446744073709551616 = 0 := by omega
    have e2 : (al + bl) % 18446744073709551616 = al + bl := by omega
    rw [e1, e2, if_neg (by omega)]
    simp only [Option.some.injEq, Prod.mk.injEq, and_true, true_and]
    omega
  · have e1 : (al + bl) / 18446744073709551616 = 1 := by omega
    have e2 : (al + bl) % 18446744073709551616 = al + bl - 18446744073709551616 := by omega
    rw [e1, e2, if_pos (by omega)]
    simp only [Option.some.injEq, Prod.mk.injEq, and_true, true_and]
    omega

theorem times_l0 (a b : Int) (a0 : 0 ≤ a) (a1 : a < 18446744073709551616) (b0 : 0 ≤ b) (b1 : b < 18446744073709551616) :
    ∀ (n k : Nat) (hi lo : Int), n ≤ 64 → n < k → 0 ≤ hi → 0 ≤ lo → lo < 18446744073709551616 → hi * 18446744073709551616 + lo = a * (b / 2 ^ n) →
      bellbuoyref01_times.l0 k a b ((n : Int) - 1) hi lo = some ((a * b) / 18446744073709551616, (a * b) % 18446744073709551616) := by
  intro n
  induction n with
  | zero =>
    intro k hi lo hn hk h0 l0 l1 hv
    obtain ⟨k, rfl⟩ : ∃ m, k = m + 1 := ⟨k - 1, by omega⟩
    simp only [bellbuoyref01_times.l0]
    rw [if_neg (by omega)]
    rw [Int.pow_zero, Int.ediv_one] at hv
    simp only [Option.some.injEq, Prod.mk.injEq, and_true, true_and]
    omega
  | succ n ih =>
    intro k hi lo hn hk h0 l0 l1 hv
    obtain ⟨k, rfl⟩ : ∃ m, k = m + 1 := ⟨k - 1, by omega⟩
    have hq0 : 0 ≤ b / 2 ^ n := Int.ediv_nonneg b0 (Int.le_of_lt (Int.pow_pos (by omega)))
    have hq1 : b / 2 ^ n ≤ b := Int.ediv_le_self _ b0
    have hh := pow_half b n
    rw [hh] at hv
    generalize hq : b / 2 ^ n = q at *
    have hab : a * q ≤ a * b := Int.mul_le_mul_of_nonneg_left hq1 a0
    have hab2 : a * b < 18446744073709551616 * 18446744073709551616 := by
      have h1 : a * b ≤ a * 18446744073709551615 := Int.mul_le_mul_of_nonneg_left (by omega) a0
      omega
    have hqq : q = 2 * (q / 2) + q % 2 := by omega
    have hbit : q % 2 = 0 ∨ q % 2 = 1 := by omega
    have hmul : a * q = 2 * (a * (q / 2)) + a * (q % 2) := by
      have : a * q = a * (2 * (q / 2) + q % 2) := by rw [← hqq]
      rw [this, Int.mul_add]
      have h2 : a * (2 * (q / 2)) = 2 * (a * (q / 2)) := by rw [← Int.mul_assoc, ← Int.mul_assoc, Int.mul_comm a 2]
      rw [h2]
    have hpos : 0 ≤ a * (q / 2) := Int.mul_nonneg a0 (by omega)
    generalize a * (q / 2) = p at *
    simp only [bellbuoyref01_times.l0]
    rw [show ((n + 1 : Nat) : Int) - 1 = (n : Int) by omega, if_pos (by omega)]
    have hlt : p < 9223372036854775808 * 18446744073709551616 := by
      rcases hbit with h | h
      · rw [h, Int.mul_zero] at hmul; omega
      · rw [h, Int.mul_one] at hmul; omega
    rw [double_eq hi lo 0 h0 (by omega) l0 l1 (by omega) (by omega)]
    simp only [Option.bind_some]
    rw [if_pos (by rw [u64w]; omega), shr_u64 _ _ (by omega), hq, and_one _ hq0 (by omega), i64w _ (by omega) (by omega)]
    rcases hbit with h | h
    · rw [h, Int.mul_zero] at hmul
      rw [if_neg (by omega)]
      exact ih k _ _ (by omega) (by omega) (by omega) (by omega) (by omega) (by omega)
    · rw [h, Int.mul_one] at hmul
      rw [if_pos h, plus_eq _ _ _ _ (by omega) (by omega) (by omega) (by omega) a0 a1 (by omega)]
      simp only [Option.bind_some]
      exact ih k _ _ (by omega) (by omega) (by omega) (by omega) (by omega) (by omega)
/-- 'times' is the product, in two halves. -/
theorem times_eq (a b : Int) (a0 : 0 ≤ a) (a1 : a < 18446744073709551616) (b0 : 0 ≤ b) (b1 : b < 18446744073709551616) (k : Nat) (hk : 65 ≤ k) :
    bellbuoyref01_times.f k a b = some ((a * b) / 18446744073709551616, (a * b) % 18446744073709551616) := by
  unfold bellbuoyref01_times.f
  refine times_l0 a b a0 a1 b0 b1 64 k 0 0 (by omega) (by omega) (by omega) (by omega) (by omega) ?_
  rw [Int.ediv_eq_zero_of_lt b0 (by simpa using b1)]
  simp

theorem over_l0 (wh wl d : Int) (w0 : 0 ≤ wh) (w1 : wh < 18446744073709551616) (l0 : 0 ≤ wl) (l1 : wl < 18446744073709551616) (d0 : 1 ≤ d) (d1 : d ≤ 9223372036854775808) :
    ∀ (n k : Nat) (left qh ql : Int), n ≤ 128 → n < k → 0 ≤ left → left < d → 0 ≤ qh → 0 ≤ ql → ql < 18446744073709551616 →
      (wh * 18446744073709551616 + wl) / 2 ^ n = (qh * 18446744073709551616 + ql) * d + left →
      bellbuoyref01_over.l0 k d left ((n : Int) - 1) wh wl qh ql =
        some (((wh * 18446744073709551616 + wl) / d) / 18446744073709551616, ((wh * 18446744073709551616 + wl) / d) % 18446744073709551616, (wh * 18446744073709551616 + wl) % d) := by
  intro n
  induction n with
  | zero =>
    intro k left qh ql hn hk h0 h1 q0 q1 q2 hv
    obtain ⟨k, rfl⟩ : ∃ m, k = m + 1 := ⟨k - 1, by omega⟩
    simp only [bellbuoyref01_over.l0]
    rw [if_neg (by omega)]
    rw [Int.pow_zero, Int.ediv_one] at hv
    rw [hv]
    have hu := (Int.ediv_emod_unique (a := (qh * 18446744073709551616 + ql) * d + left) (r := left) (q := qh * 18446744073709551616 + ql) (b := d) (by omega)).2 ⟨by rw [Int.mul_comm d]; omega, h0, h1⟩
    rw [hu.1, hu.2]
    simp only [Option.some.injEq, Prod.mk.injEq, and_true, true_and]
    omega
  | succ n ih =>
    intro k left qh ql hn hk h0 h1 q0 q1 q2 hv
    obtain ⟨k, rfl⟩ : ∃ m, k = m + 1 := ⟨k - 1, by omega⟩
    have hW0 : 0 ≤ wh * 18446744073709551616 + wl := by omega
    have hW1 : wh * 18446744073709551616 + wl < 340282366920938463463374607431768211456 := by omega
    have hq0 : 0 ≤ (wh * 18446744073709551616 + wl) / 2 ^ n := Int.ediv_nonneg hW0 (Int.le_of_lt (Int.pow_pos (by omega)))
    have hq1 : (wh * 18446744073709551616 + wl) / 2 ^ n ≤ wh * 18446744073709551616 + wl := Int.ediv_le_self _ hW0
    have hh := pow_half (wh * 18446744073709551616 + wl) n
    have hhi : ∀ m, n = 64 + m → wh / 2 ^ m = (wh * 18446744073709551616 + wl) / 2 ^ n := fun m hm => by rw [hm]; exact (wide_hi wh wl l0 l1 m).symm
    have hlo : n < 64 → (wl / 2 ^ n) % 2 = ((wh * 18446744073709551616 + wl) / 2 ^ n) % 2 := fun hm => (wide_lo wh wl n hm).symm
    rw [hh] at hv
    have goal : ∀ r, bellbuoyref01_over.l0 (k + 1) d left ((n + 1 : Nat) - 1 : Int) wh wl qh ql = r ↔ bellbuoyref01_over.l0 (k + 1) d left ((n + 1 : Nat) - 1 : Int) wh wl qh ql = r := fun _ => Iff.rfl
    have hQ : (qh * 18446744073709551616 + ql) ≤ (qh * 18446744073709551616 + ql) * d := by
      have := Int.mul_le_mul_of_nonneg_left (a := 1) (b := d) (c := qh * 18446744073709551616 + ql) d0 (by omega)
      omega
    have hdist : (2 * (qh * 18446744073709551616 + ql)) * d = 2 * ((qh * 18446744073709551616 + ql) * d) := Int.mul_assoc _ _ _
    have hdist1 : (2 * (qh * 18446744073709551616 + ql) + 1) * d = 2 * ((qh * 18446744073709551616 + ql) * d) + d := by rw [Int.add_mul, Int.one_mul, hdist]
    have key : ∀ (b : Int), b = ((wh * 18446744073709551616 + wl) / 2 ^ n) % 2 →
        ((bellbuoyref01_double.f qh ql 0).bind fun bt => (if (Go.bits .or .u64 (IntKind.u64.wrap (left * 2)) b) ≥ d then (bellbuoyref01_over.l0 k d (IntKind.u64.wrap ((Go.bits .or .u64 (IntKind.u64.wrap (left * 2)) b) - d)) (wrap64 ((n : Int) - 1)) wh wl bt.1 (Go.bits .or .u64 bt.2 1)) else (bellbuoyref01_over.l0 k d (Go.bits .or .u64 (IntKind.u64.wrap (left * 2)) b) (wrap64 ((n : Int) - 1)) wh wl bt.1 bt.2))) =
        some (((wh * 18446744073709551616 + wl) / d) / 18446744073709551616, ((wh * 18446744073709551616 + wl) / d) % 18446744073709551616, (wh * 18446744073709551616 + wl) % d) := by
      intro b hb
      rw [double_eq qh ql 0 q0 (by omega) q1 q2 (by omega) (by omega)]
      simp only [Option.bind_some]
      have hw : IntKind.u64.wrap (left * 2) = left * 2 := by rw [u64w]; omega
      rw [hw, or_even _ _ (by omega) (by omega) (by omega) (by omega) (by omega), i64w _ (by omega) (by omega)]
      have hQe : (2 * qh + ql / 9223372036854775808) * 18446744073709551616 + (2 * ql % 18446744073709551616 + 0) = 2 * (qh * 18446744073709551616 + ql) := by omega
      split
      · rw [or_even _ _ (by omega) (by omega) (by omega) (by omega) (by omega)]
        have hw2 : IntKind.u64.wrap (left * 2 + b - d) = left * 2 + b - d := by rw [u64w]; omega
        rw [hw2]
        refine ih k _ _ _ (by omega) (by omega) (by omega) (by omega) (by omega) (by omega) (by omega) ?_
        rw [show (2 * qh + ql / 9223372036854775808) * 18446744073709551616 + (2 * ql % 18446744073709551616 + 0 + 1) = 2 * (qh * 18446744073709551616 + ql) + 1 by omega, hdist1]
        omega
      · refine ih k _ _ _ (by omega) (by omega) (by omega) (by omega) (by omega) (by omega) (by omega) ?_
        rw [hQe, hdist]
        omega
    simp only [bellbuoyref01_over.l0]
    rw [show ((n + 1 : Nat) : Int) - 1 = (n : Int) by omega, if_pos (by omega)]
    by_cases h64 : 64 ≤ n
    · obtain ⟨m, hm⟩ : ∃ m, n = 64 + m := ⟨n - 64, by omega⟩
      rw [if_pos (by omega), if_pos (by rw [u64w, i64w _ (by omega) (by omega)]; omega), i64w ((n : Int) - 64) (by omega) (by omega), show ((n : Int) - 64) = (m : Int) by omega, shr_u64 _ _ (by omega), hhi m hm, and_one _ hq0 (by
        rw [← hhi m hm]
        have := Int.ediv_le_self (2 ^ m) w0
        omega)]
      exact key _ rfl
    · rw [if_neg (by omega), if_pos (by rw [u64w]; omega), shr_u64 _ _ (by omega), and_one _ (Int.ediv_nonneg l0 (Int.le_of_lt (Int.pow_pos (by omega)))) (by
        have := Int.ediv_le_self (2 ^ n) l0
        omega), hlo (by omega)]
      exact key _ rfl
/-- 'over' is the quotient, in two halves, and what is left. -/
theorem over_eq (wh wl d : Int) (w0 : 0 ≤ wh) (w1 : wh < 18446744073709551616) (l0 : 0 ≤ wl) (l1 : wl < 18446744073709551616) (d0 : 1 ≤ d) (d1 : d ≤ 9223372036854775808) (k : Nat) (hk : 129 ≤ k) :
    bellbuoyref01_over.f k wh wl d = some (((wh * 18446744073709551616 + wl) / d) / 18446744073709551616, ((wh * 18446744073709551616 + wl) / d) % 18446744073709551616, (wh * 18446744073709551616 + wl) % d) := by
  unfold bellbuoyref01_over.f
  refine over_l0 wh wl d w0 w1 l0 l1 d0 d1 128 k 0 0 0 (by omega) (by omega) (by omega) (by omega) (by omega) (by omega) (by omega) ?_
  rw [show (2 : Int) ^ 128 = 340282366920938463463374607431768211456 from rfl]
  omega

theorem size_eq (a : Int) (h0 : -9223372036854775808 ≤ a) (h1 : a ≤ 9223372036854775807) : bellbuoyref01_size.f a = some (if a < 0 then -a else a) := by
  unfold bellbuoyref01_size.f
  simp only [u64w]
  split
  · simp only [Option.some.injEq]; omega
  · simp only [Option.some.injEq]; omega

theorem signed_eq (hi lo : Int) (below : Bool) (h0 : 0 ≤ hi) (l0 : 0 ≤ lo) (l1 : lo < 18446744073709551616) (k : Nat) (hk : 1 ≤ k) :
    bellbuoyref01_signed.f k hi lo below = some (sgn (hi * 18446744073709551616 + lo) below) := by
  obtain ⟨k, rfl⟩ : ∃ m, k = m + 1 := ⟨k - 1, by omega⟩
  unfold bellbuoyref01_signed.f
  simp only [bellbuoyref01_signed.j0, sgn, fits, u64w]
  cases below
  · simp only [Bool.false_eq_true, if_false, Bool.not_false, if_true]
    split
    · split
      · rw [if_neg (by omega)]
      · split
        · rw [if_neg (by omega)]
        · rw [if_pos (by omega), i64w _ (by omega) (by omega)]
          simp only [Option.some.injEq, Prod.mk.injEq, and_true]; omega
    · rw [if_neg (by omega)]
  · simp only [if_true, Bool.not_true, Bool.false_eq_true, if_false]
    split
    · split
      · rw [if_neg (by omega)]
      · have hw : wrap64 (-lo % 18446744073709551616) = -(hi * 18446744073709551616 + lo) := by unfold wrap64; omega
        split
        · rw [if_pos (by omega), hw]
        · rw [if_pos (by omega), hw]
    · rw [if_neg (by omega)]

set_option maxHeartbeats 4000000 in
set_option maxRecDepth 100000 in
theorem Scale_walk (k : Nat) (a b d sa sb p1 p2 q1 q2 l u1 u2 r1 : Int) (r2 va vb vl vbel : Bool) (w : World) (ha : decide (a < 0) = va) (hb : decide (b < 0) = vb) (hl : decide (0 < l) = vl) (hd : decide (d < 1) = false)
    (hsa : bellbuoyref01_size.f a = some sa) (hsb : bellbuoyref01_size.f b = some sb) (ht : bellbuoyref01_times.f k sa sb = some (p1, p2)) (hov : bellbuoyref01_over.f k p1 p2 (IntKind.u64.wrap d) = some (q1, q2, l))
    (hbel : (va != vb) = vbel)
    (hpl : (vbel && vl) = true → bellbuoyref01_plus.f q1 q2 0 1 = some (u1, u2) ∧ bellbuoyref01_signed.f k u1 u2 vbel = some (r1, r2))
    (hnp : (vbel && vl) = false → bellbuoyref01_signed.f k q1 q2 vbel = some (r1, r2)) :
    Calls Try.prog 71 #[.int .i64 a, .int .i64 b, .int .i64 d] w fun e w' => e = .returned (.tuple #[.int .i64 r1, .bool r2]) ∧ Below w.heap.size w w' := by
  have hu40 := Try.underlying90
  have Ha := Aside0.mk hsa; clear hsa
  have Hb := Aside0.mk hsb; clear hsb
  have Ht := Aside0.mk ht; clear ht
  have Ho := Aside0.mk hov; clear hov
  have Hp := Aside0.mk hpl; clear hpl
  have Hn := Aside0.mk hnp; clear hnp
  have Hbel := Aside0.mk hbel; clear hbel
  cases va <;> cases vb <;> cases vl <;> cases vbel <;> first | exact absurd Hbel.out (by decide) | skip
  all_goals
    go_enter Try.func71, Try.ntmps71
    go_wp2_with (first | (go_at_call 62; (with_reducible refine (bellbuoyref01_size.calls a sa _ Ha.out).mono ?_); rintro e w1 ⟨rfl, ⟨n1, rfl⟩⟩) | (go_at_call 62; (with_reducible refine (bellbuoyref01_size.calls b sb _ Hb.out).mono ?_); rintro e w2 ⟨rfl, ⟨n2, rfl⟩⟩) | (go_at_call 61; (with_reducible refine (bellbuoyref01_times.calls k sa sb p1 p2 _ Ht.out).mono ?_); rintro e w3 ⟨rfl, hb3⟩; have B3 : Below w.heap.size w w3 := below_step (by repeat (first | exact Below.refl _ _ | assumption | apply below_alloc | apply pw_below_drewN | apply below_drew1)) hb3; clear hb3) | (go_at_call 78; (with_reducible refine (bellbuoyref01_over.calls k p1 p2 _ q1 q2 l _ Ho.out).mono ?_); rintro e w4 ⟨rfl, hb4⟩; have B4 : Below w.heap.size w w4 := below_step (by repeat (first | exact Below.refl _ _ | assumption | apply below_alloc | apply pw_below_drewN | apply below_drew1)) hb4; clear hb4 B3) | (go_at_call 74; (with_reducible refine (bellbuoyref01_plus.calls q1 q2 0 1 u1 u2 _ (Hp.out rfl).1).mono ?_); rintro e w5 ⟨rfl, hb5⟩; obtain ⟨c0, c1, f0, f1, z5⟩ := two_cells rfl rfl hb5; have B5 : Below w.heap.size w w5 := below_step (by repeat (first | exact Below.refl _ _ | assumption | apply below_alloc | apply pw_below_drewN | apply below_drew1)) hb5; clear hb5) | (go_at_call 60; (with_reducible refine (bellbuoyref01_signed.calls k q1 q2 _ r1 r2 _ (Hn.out rfl)).mono ?_); rintro e w6 ⟨rfl, hb6⟩) | (go_at_call 60; (with_reducible refine (bellbuoyref01_signed.calls k u1 u2 _ r1 r2 _ (Hp.out rfl).2).mono ?_); rintro e w6 ⟨rfl, hb6⟩))
    go_ret2
    exact ⟨rfl, below_step (by repeat (first | exact Below.refl _ _ | exact B5 | exact B4 | apply below_alloc | apply pw_below_drewN | apply below_drew1 | refine below_set ?_ B4.size)) hb6⟩
def bellbuoyref01_Scale.f (a0 : Int) (a1 : Int) (a2 : Int) : Option (Int × Bool) := if a2 < 1 then some (0, false) else if In64 a0 ∧ In64 a1 ∧ In64 a2 then some (fits (a0 * a1 / a2)) else none
theorem Scale_pos (a b d : Int) (a0 : -9223372036854775808 ≤ a) (a1 : a ≤ 9223372036854775807) (b0 : -9223372036854775808 ≤ b) (b1 : b ≤ 9223372036854775807) (d0 : 1 ≤ d) (d1 : d ≤ 9223372036854775807) (r1 : Int) (r2 : Bool) (hr : fits (a * b / d) = (r1, r2)) (w : World) :
    Calls Try.prog 71 #[.int .i64 a, .int .i64 b, .int .i64 d] w fun e w' => e = .returned (.tuple #[.int .i64 r1, .bool r2]) ∧ Below w.heap.size w w' := by
  have hP : ∃ P, (if a < 0 then -a else a) * (if b < 0 then -b else b) = P ∧ 0 ≤ P ∧ P ≤ 85070591730234615865843651857942052864 ∧ a * b = if (decide (a < 0) != decide (b < 0)) = true then -P else P := by
    refine ⟨_, rfl, Int.mul_nonneg (by split <;> omega) (by split <;> omega), ?_, ?_⟩
    · have h1 : (if a < 0 then -a else a) * (if b < 0 then -b else b) ≤ 9223372036854775808 * 9223372036854775808 :=
        Int.mul_le_mul (by split <;> omega) (by split <;> omega) (by split <;> omega) (by omega)
      omega
    · by_cases ha : a < 0 <;> by_cases hb : b < 0 <;> simp [ha, hb, Int.neg_mul, Int.mul_neg]
  obtain ⟨P, hP1, hP2, hP3, hP4⟩ := hP
  have ht := times_eq (if a < 0 then -a else a) (if b < 0 then -b else b) (by split <;> omega) (by split <;> omega) (by split <;> omega) (by split <;> omega) 131 (by omega)
  rw [hP1] at ht
  have hu : IntKind.u64.wrap d = d := by rw [u64w]; omega
  have ho := over_eq (P / 18446744073709551616) (P % 18446744073709551616) d (by omega) (by omega) (by omega) (by omega) d0 (by omega) 131 (by omega)
  have hPP : P / 18446744073709551616 * 18446744073709551616 + P % 18446744073709551616 = P := by omega
  rw [hPP] at ho
  have hq0 : 0 ≤ P / d := Int.ediv_nonneg hP2 (by omega)
  have hq1 : P / d ≤ P := Int.ediv_le_self _ hP2
  have hr0 : 0 ≤ P % d := Int.emod_nonneg _ (by omega)
  have hr1 : P % d < d := Int.emod_lt_of_pos _ (by omega)
  have hdm := Int.mul_ediv_add_emod P d
  rw [hP4] at hr
  generalize hq : P / d = q at *
  generalize hrr : P % d = r at *
  have hqq : q / 18446744073709551616 * 18446744073709551616 + q % 18446744073709551616 = q := by omega
  rw [← hu] at ho
  refine Scale_walk 131 a b d _ _ _ _ _ _ r (q / 18446744073709551616 + 0 + (q % 18446744073709551616 + 1) / 18446744073709551616) ((q % 18446744073709551616 + 1) % 18446744073709551616) r1 r2 _ _ _ (decide (a < 0) != decide (b < 0)) w rfl rfl rfl (by simp; omega) (size_eq a a0 a1) (size_eq b b0 b1) ht ho rfl ?_ ?_
  · intro hb
    rw [Bool.and_eq_true] at hb
    obtain ⟨hb1, hb2⟩ := hb
    have hz : 0 < r := by simpa using hb2
    refine ⟨plus_eq _ _ _ _ (by omega) (by omega) (by omega) (by omega) (by omega) (by omega) (by omega), ?_⟩
    rw [signed_eq _ _ _ (by omega) (by omega) (by omega) _ (by omega), hb1, ← hr, hb1]
    have hfl : -P / d = -(q + 1) := by
      refine ((Int.ediv_emod_unique (a := -P) (r := d - r) (q := -(q + 1)) (b := d) (by omega)).2 ⟨?_, by omega, by omega⟩).1
      rw [Int.mul_neg, Int.mul_add, Int.mul_one]
      omega
    simp only [sgn, if_true, hfl]
    rw [show (q / 18446744073709551616 + 0 + (q % 18446744073709551616 + 1) / 18446744073709551616) * 18446744073709551616 + (q % 18446744073709551616 + 1) % 18446744073709551616 = q + 1 by omega]
  · intro hb
    rw [signed_eq _ _ _ (by omega) (by omega) (by omega) _ (by omega), hqq, ← hr]
    cases hc : (decide (a < 0) != decide (b < 0)) with
    | true =>
      rw [hc, Bool.true_and] at hb
      have hz : ¬ 0 < r := by simpa using hb
      have hfl : -P / d = -q := by
        refine ((Int.ediv_emod_unique (a := -P) (r := 0) (q := -q) (b := d) (by omega)).2 ⟨?_, by omega, by omega⟩).1
        rw [Int.mul_neg]
        omega
      simp only [sgn, if_true, hfl]
    | false => simp only [sgn, Bool.false_eq_true, if_false, hq]
set_option maxHeartbeats 4000000 in
set_option maxRecDepth 100000 in
theorem Scale_none (a b d : Int) (w : World) (hd : decide (d < 1) = true) :
    Calls Try.prog 71 #[.int .i64 a, .int .i64 b, .int .i64 d] w fun e w' => e = .returned (.tuple #[.int .i64 0, .bool false]) ∧ Below w.heap.size w w' := by
  go_enter Try.func71, Try.ntmps71
  go_wp2
  go_ret2
  exact ⟨rfl, Below.refl _ _⟩
theorem bellbuoyref01_Scale.calls (a0 : Int) (a1 : Int) (a2 : Int) (r1 : Int) (r2 : Bool) (w : World) (h : bellbuoyref01_Scale.f a0 a1 a2 = some (r1, r2)) :
    Calls Try.prog 71 #[.int .i64 a0, .int .i64 a1, .int .i64 a2] w fun e w' => e = .returned (.tuple #[.int .i64 r1, .bool r2]) ∧ Below w.heap.size w w' := by
  unfold bellbuoyref01_Scale.f at h
  by_cases hd : a2 < 1
  · rw [if_pos hd] at h
    simp only [Option.some.injEq, Prod.mk.injEq] at h
    obtain ⟨rfl, rfl⟩ := h
    exact Scale_none a0 a1 a2 w (by simpa using hd)
  · rw [if_neg hd] at h
    by_cases hi : In64 a0 ∧ In64 a1 ∧ In64 a2
    · rw [if_pos hi] at h
      exact Scale_pos a0 a1 a2 hi.1.1 hi.1.2 hi.2.1.1 hi.2.1.2 (by omega) hi.2.2.2 r1 r2 (Option.some.inj h) w
    · rw [if_neg hi] at h
      exact absurd h (by simp)

-- NOT PRINTED: function 47 (bellbuoyref17_Clock_Look)

-- NOT PRINTED: function 44 (bellbuoyref17_Clock_Shift)

-- NOT PRINTED: function 45 (bellbuoyref17_Clock_Read)

-- NOT PRINTED: function 16 (bellbuoyref19_New)

-- NOT PRINTED: function 18 (bellbuoyref19_Pair_Capture)

-- NOT PRINTED: function 51 (bellbuoyref17_Clock_Tune)

-- NOT PRINTED: function 20 (bellbuoyref19_Pair_Apply)

-- NOT PRINTED: function 54 (bellbuoyref16_Osc_Step)

-- NOT PRINTED: function 22 (bellbuoyref19_Pair_Step)

-- NOT PRINTED: function 27 (bellbuoyref19_Pair_Gap)

-- NOT PRINTED: function 4 (bellbuoylaw19_AccordPlays)

end Go.Proofs.Ytjnllejfgljkdaa.P
