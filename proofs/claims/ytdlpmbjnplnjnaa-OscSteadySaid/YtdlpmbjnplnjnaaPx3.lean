/- What is proved here: each Go function that this text names answers as the Lean function of its name says, whenever that one answers; and a law's row follows from its plain statement. Laid by a program of the session over the kit's print. -/
import Derived.Test.YtdlpmbjnplnjnaaPx0
import Derived.Test.YtdlpmbjnplnjnaaPx2
namespace Go.Proofs.Ytdlpmbjnplnjnaa.P
open Go.RowKit Go.Proofs.YtdlpmbjnplnjnaaW.PrintWords Go.Proofs.YtdlpmbjnplnjnaaW.PrintLast Go.Proofs.YtdlpmbjnplnjnaaW.PrintMore
attribute [local go_sem] max2_int min2_int max_two min_two max_three min_three max_four min_four   -- for this text's walks alone
set_option linter.unusedVariables false
set_option linter.unusedSimpArgs false

/-! ### bellbuoyref01_signed: function 34 -/
def bellbuoyref01_signed.j0 : Nat → Bool → Bool → Int → Int → Option (Int × Bool)
  | 0, _, _, _, _ => none
  | k + 1, x1, x22, x135000, x135001 => if x22 = true then (some (0, false)) else (if x1 = true then (some (wrap64 (IntKind.u64.wrap (-x135001)), true)) else (some (wrap64 (x135001), true)))
def bellbuoyref01_signed.f (k : Nat) (a0_0 : Int) (a0_1 : Int) (a1 : Bool) : Option (Int × Bool) := if a0_0 = 0 then (if a0_1 > 9223372036854775808 then (bellbuoyref01_signed.j0 k a1 true a0_0 a0_1) else (if a0_1 = 9223372036854775808 then (bellbuoyref01_signed.j0 k a1 (!a1) a0_0 a0_1) else (bellbuoyref01_signed.j0 k a1 false a0_0 a0_1))) else (bellbuoyref01_signed.j0 k a1 true a0_0 a0_1)
theorem bellbuoyref01_signed.mono_l : ∀ k, (∀ y0 y1 y2 y3, LeO (bellbuoyref01_signed.j0 k y0 y1 y2 y3) (bellbuoyref01_signed.j0 (k + 1) y0 y1 y2 y3))
  | 0 => fun _ _ _ _ r h => by simp [bellbuoyref01_signed.j0] at h
  | k + 1 => by
    have ih0 := bellbuoyref01_signed.mono_l k
    · intro y0 y1 y2 y3
      unfold bellbuoyref01_signed.j0
      repeat' first
      | (with_reducible exact ih0 _ _ _ _)
      | (with_reducible exact LeO.refl _)
      | (with_reducible exact LeO.none _)
      | (with_reducible refine LeO.ite ?_ ?_)
      | (with_reducible refine LeO.bind ?_ (fun _ => ?_))
      | exact ih0 _ _ _ _
      | exact LeO.none _
      | refine LeO.ite ?_ ?_
      | refine LeO.bind ?_ (fun _ => ?_)
theorem bellbuoyref01_signed.mono : ∀ a0 a1 a2 k, LeO (bellbuoyref01_signed.f k a0 a1 a2) (bellbuoyref01_signed.f (k + 1) a0 a1 a2) := by
  intro a0 a1 a2 k
  have ih0 := bellbuoyref01_signed.mono_l k
  unfold bellbuoyref01_signed.f
  repeat' first
      | (with_reducible exact ih0 _ _ _ _)
      | (with_reducible exact LeO.refl _)
      | (with_reducible exact LeO.none _)
      | (with_reducible refine LeO.ite ?_ ?_)
      | (with_reducible refine LeO.bind ?_ (fun _ => ?_))
      | exact ih0 _ _ _ _
      | exact LeO.none _
      | refine LeO.ite ?_ ?_
      | refine LeO.bind ?_ (fun _ => ?_)
set_option maxHeartbeats 8000000 in
set_option maxRecDepth 100000 in
theorem bellbuoyref01_signed.calls (k : Nat) (a0_0 : Int) (a0_1 : Int) (a1 : Bool) (r1 : Int) (r2 : Bool) (w : World) (h : bellbuoyref01_signed.f k a0_0 a0_1 a1 = some (r1, r2)) :
    Calls Try.prog 34 #[.agg #[.int .u64 a0_0, .int .u64 a0_1], .bool a1] w fun e w' => e = .returned (.tuple #[.int .i64 r1, .bool r2]) ∧ Below w.heap.size w w' := by
  have hu56 := Try.underlying56
  have HB := Aside0.mk (Below.refl w.heap.size w)
  have H : (if a0_0 = 0 then (if a0_1 > 9223372036854775808 then (bellbuoyref01_signed.j0 k a1 true a0_0 a0_1) else (if a0_1 = 9223372036854775808 then (bellbuoyref01_signed.j0 k a1 (!a1) a0_0 a0_1) else (bellbuoyref01_signed.j0 k a1 false a0_0 a0_1))) else (bellbuoyref01_signed.j0 k a1 true a0_0 a0_1)) = some (r1, r2) := h
  clear h
  have HC3 := Aside0.mk H
  clear H
  go_enter Try.func34, Try.ntmps34
  go_upto_region 1 with (first | ((with_reducible refine gate_dst (N := 2) rfl ?_); refine box_event ?hg (N := 2) ?hd (cs := #[.int .u64 a0_0, .int .u64 a0_1]) (t := 56) ?hr ?_; (case hd => rfl); (case hg => rfl); (case hr => first | (go_simp; done) | (go_simp; rfl)); intro gb134 hg w4 hbox hb; have n0_ := Aside0.mk (below_step (by repeat (first | (with_reducible first | exact HB.out | apply below_alloc | apply pw_below_drewN | apply below_drew1) | exact HB.out)) hb); have n1_ := Aside0.mk (hbox); have n2_ := Aside0.mk ((by rw [hg]; exact (below_size (by repeat (first | (with_reducible first | exact HB.out | apply below_alloc | apply pw_below_drewN | apply below_drew1) | exact HB.out))) : w.heap.size ≤ gb134)); have n3_ := Aside0.mk ((by rw [hg]; exact (below_size (by repeat (first | (with_reducible first | exact HB.out | apply below_alloc | apply pw_below_drewN | apply below_drew1) | exact HB.out))) : w.heap.size ≤ gb134)); clear HB; have HB := n0_; have BK134 := n1_; have GW134 := n2_; have GE134 := n3_; clear n0_ n1_ n2_ n3_; clear hb hbox hg))
  (try simp only [Act.put, List.setIfInBounds_toArray, List.set_cons_zero, List.set_cons_succ])
  go_cut [22] (fun v22 wc => ∃ (kq : Nat) (x22_2 : Bool), v22 = .bool x22_2 ∧ Aside0 (bellbuoyref01_signed.j0 kq a1 x22_2 a0_0 a0_1 = some (r1, r2)) ∧ Aside0 (kq ≤ k) ∧ Aside0 (wc.heap[gb134]? = some (.cells #[.int .u64 a0_0, .int .u64 a0_1] 56 (0, 0))) ∧ Aside0 (Below w.heap.size w wc))
  case first =>
    have H := HC3.out
    clear HC3
    by_cases c5 : a0_0 = 0
    · rw [if_pos c5] at H
      have c5b0 : (a0_0 == 0) = true := beq_iff_eq.mpr c5
      have c5b1 : (a0_0 != 0) = false := bne_eq_false_iff_eq.mpr c5
      clear c5
      (first | rw [c5b0] | (simp only [i64_w, i32_w]; rw [c5b0]) | skip)
      by_cases c6 : a0_1 > 9223372036854775808
      · rw [if_pos c6] at H
        have c6b0 : decide (9223372036854775808 < a0_1) = true := decide_eq_true c6
        clear c6
        have H' := Aside0.mk H
        clear H
        have hcz7_0 : w4.cell? ⟨gb134, 0, none⟩ = some (.int .u64 a0_0) := (blk_cell BK134.out 0).trans rfl
        have hcz7_1 : w4.cell? ⟨gb134, 1, none⟩ = some (.int .u64 a0_1) := (blk_cell BK134.out 1).trans rfl
        have hfz7_0 := blk_frozen BK134.out 0
        have hfz7_1 := blk_frozen BK134.out 1
        go_wp2
        go_meet
        case rel => exact ⟨_, (true), (by first | rfl | (simp; done) | (simp [*]; done)), H', ⟨by first | omega | exact Nat.le_refl _⟩, ⟨by (with_reducible repeat (first | refine blk_drewN ?_ _ | refine blk_drew ?_ | refine blk_alloc ?_ _)); exact BK134.out⟩, ⟨by repeat (first | (with_reducible first | exact HB.out | apply below_alloc | apply pw_below_drewN | apply below_drew1 | refine below_set ?_ GE134.out) | exact HB.out)⟩⟩
      · rw [if_neg c6] at H
        have c6b0 : decide (9223372036854775808 < a0_1) = false := decide_eq_false c6
        clear c6
        by_cases c8 : a0_1 = 9223372036854775808
        · rw [if_pos c8] at H
          have c8b0 : (a0_1 == 9223372036854775808) = true := beq_iff_eq.mpr c8
          have c8b1 : (a0_1 != 9223372036854775808) = false := bne_eq_false_iff_eq.mpr c8
          clear c8
          have H' := Aside0.mk H
          clear H
          have hcz9_0 : w4.cell? ⟨gb134, 0, none⟩ = some (.int .u64 a0_0) := (blk_cell BK134.out 0).trans rfl
          have hcz9_1 : w4.cell? ⟨gb134, 1, none⟩ = some (.int .u64 a0_1) := (blk_cell BK134.out 1).trans rfl
          have hfz9_0 := blk_frozen BK134.out 0
          have hfz9_1 := blk_frozen BK134.out 1
          go_wp2
          go_meet
          case rel => exact ⟨_, (!a1), (by first | rfl | (simp; done) | (simp [*]; done)), H', ⟨by first | omega | exact Nat.le_refl _⟩, ⟨by (with_reducible repeat (first | refine blk_drewN ?_ _ | refine blk_drew ?_ | refine blk_alloc ?_ _)); exact BK134.out⟩, ⟨by repeat (first | (with_reducible first | exact HB.out | apply below_alloc | apply pw_below_drewN | apply below_drew1 | refine below_set ?_ GE134.out) | exact HB.out)⟩⟩
        · rw [if_neg c8] at H
          have c8b0 : (a0_1 == 9223372036854775808) = false := beq_eq_false_iff_ne.mpr c8
          have c8b1 : (a0_1 != 9223372036854775808) = true := bne_iff_ne.mpr c8
          have H' := Aside0.mk H
          clear H
          have hcz10_0 : w4.cell? ⟨gb134, 0, none⟩ = some (.int .u64 a0_0) := (blk_cell BK134.out 0).trans rfl
          have hcz10_1 : w4.cell? ⟨gb134, 1, none⟩ = some (.int .u64 a0_1) := (blk_cell BK134.out 1).trans rfl
          have hfz10_0 := blk_frozen BK134.out 0
          have hfz10_1 := blk_frozen BK134.out 1
          go_wp2
          go_meet
          case rel => exact ⟨_, (false), (by first | rfl | (simp; done) | (simp [*]; done)), H', ⟨by first | omega | exact Nat.le_refl _⟩, ⟨by (with_reducible repeat (first | refine blk_drewN ?_ _ | refine blk_drew ?_ | refine blk_alloc ?_ _)); exact BK134.out⟩, ⟨by repeat (first | (with_reducible first | exact HB.out | apply below_alloc | apply pw_below_drewN | apply below_drew1 | refine below_set ?_ GE134.out) | exact HB.out)⟩⟩
    · rw [if_neg c5] at H
      have c5b0 : (a0_0 == 0) = false := beq_eq_false_iff_ne.mpr c5
      have c5b1 : (a0_0 != 0) = true := bne_iff_ne.mpr c5
      (first | rw [c5b0] | (simp only [i64_w, i32_w]; rw [c5b0]) | skip)
      have H' := Aside0.mk H
      clear H
      have hcz11_0 : w4.cell? ⟨gb134, 0, none⟩ = some (.int .u64 a0_0) := (blk_cell BK134.out 0).trans rfl
      have hcz11_1 : w4.cell? ⟨gb134, 1, none⟩ = some (.int .u64 a0_1) := (blk_cell BK134.out 1).trans rfl
      have hfz11_0 := blk_frozen BK134.out 0
      have hfz11_1 := blk_frozen BK134.out 1
      go_wp2
      go_meet
      case rel => exact ⟨_, (true), (by first | rfl | (simp; done) | (simp [*]; done)), H', ⟨by first | omega | exact Nat.le_refl _⟩, ⟨by (with_reducible repeat (first | refine blk_drewN ?_ _ | refine blk_drew ?_ | refine blk_alloc ?_ _)); exact BK134.out⟩, ⟨by repeat (first | (with_reducible first | exact HB.out | apply below_alloc | apply pw_below_drewN | apply below_drew1 | refine below_set ?_ GE134.out) | exact HB.out)⟩⟩
  case rest =>
    clear HC3
    try clear p2
    try clear c3
    try clear c5
    try clear c5b0
    try clear c5b1
    try clear c6
    try clear c6b0
    try clear c8
    try clear c8b0
    try clear c8b1
    try clear hcz10_0
    try clear hcz10_1
    try clear hcz11_0
    try clear hcz11_1
    try clear hcz7_0
    try clear hcz7_1
    try clear hcz9_0
    try clear hcz9_1
    try clear hfz10_0
    try clear hfz10_1
    try clear hfz11_0
    try clear hfz11_1
    try clear hfz7_0
    try clear hfz7_1
    try clear hfz9_0
    try clear hfz9_1
    obtain ⟨kq, x22_2, rfl, HA, HJ2, BK134, HB⟩ := hcut
    cases kq with
    | zero => exact absurd HA.out (by simp [bellbuoyref01_signed.j0])
    | succ kj2 =>
      have H := HA.out
      clear HA
      simp only [bellbuoyref01_signed.j0] at H
      by_cases c12 : x22_2 = true
      · subst c12
        have H1 : (some (0, false)) = some (r1, r2) := by rw [if_pos rfl] at H; exact H
        clear H
        have H := H1
        clear H1
        simp only [Option.some.injEq, Prod.mk.injEq] at H
        obtain ⟨rfl, rfl⟩ := H
        go_wp2
        go_ret2
        exact ⟨by first | rfl | (simp [errW_none, errW_some] <;> rfl) | (simp [*, errW_none, errW_some] <;> rfl), by repeat (first | (with_reducible first | exact HB.out | apply below_alloc | apply pw_below_drewN | apply below_drew1 | refine below_set ?_ GE134.out) | exact HB.out)⟩
      · replace c12 := Bool.eq_false_iff.mpr c12
        subst c12
        have H1 : (if a1 = true then (some (wrap64 (IntKind.u64.wrap (-a0_1)), true)) else (some (wrap64 (a0_1), true))) = some (r1, r2) := by rw [if_neg (show ¬ (false = true) by decide)] at H; exact H
        clear H
        have H := H1
        clear H1
        by_cases c13 : a1 = true
        · subst c13
          have H1 : (some (wrap64 (IntKind.u64.wrap (-a0_1)), true)) = some (r1, r2) := by rw [if_pos rfl] at H; exact H
          clear H
          have H := H1
          clear H1
          simp only [Option.some.injEq, Prod.mk.injEq] at H
          obtain ⟨rfl, rfl⟩ := H
          have hcz14_0 : wc.cell? ⟨gb134, 0, none⟩ = some (.int .u64 a0_0) := (blk_cell BK134.out 0).trans rfl
          have hcz14_1 : wc.cell? ⟨gb134, 1, none⟩ = some (.int .u64 a0_1) := (blk_cell BK134.out 1).trans rfl
          have hfz14_0 := blk_frozen BK134.out 0
          have hfz14_1 := blk_frozen BK134.out 1
          go_wp2
          go_ret2
          exact ⟨by first | rfl | (simp [errW_none, errW_some] <;> rfl) | (simp [*, errW_none, errW_some] <;> rfl), by repeat (first | (with_reducible first | exact HB.out | apply below_alloc | apply pw_below_drewN | apply below_drew1 | refine below_set ?_ GE134.out) | exact HB.out)⟩
        · replace c13 := Bool.eq_false_iff.mpr c13
          subst c13
          have H1 : (some (wrap64 (a0_1), true)) = some (r1, r2) := by rw [if_neg (show ¬ (false = true) by decide)] at H; exact H
          clear H
          have H := H1
          clear H1
          simp only [Option.some.injEq, Prod.mk.injEq] at H
          obtain ⟨rfl, rfl⟩ := H
          have hcz15_0 : wc.cell? ⟨gb134, 0, none⟩ = some (.int .u64 a0_0) := (blk_cell BK134.out 0).trans rfl
          have hcz15_1 : wc.cell? ⟨gb134, 1, none⟩ = some (.int .u64 a0_1) := (blk_cell BK134.out 1).trans rfl
          have hfz15_0 := blk_frozen BK134.out 0
          have hfz15_1 := blk_frozen BK134.out 1
          go_wp2
          go_ret2
          exact ⟨by first | rfl | (simp [errW_none, errW_some] <;> rfl) | (simp [*, errW_none, errW_some] <;> rfl), by repeat (first | (with_reducible first | exact HB.out | apply below_alloc | apply pw_below_drewN | apply below_drew1 | refine below_set ?_ GE134.out) | exact HB.out)⟩

/-! ### bellbuoyref01_Scale: function 29 -/
theorem or_even (a b : Int) (ha : 0 ≤ a) (ha2 : a < 18446744073709551616) (he : a % 2 = 0) (hb : 0 ≤ b) (hb2 : b ≤ 1) : bits .or .u64 a b = a + b := by
  rw [u64_or a b ha ha2 hb (by omega)]
  have h := Nat.two_pow_add_eq_or_of_lt (i := 1) (b := b.toNat) (by omega) (a.toNat / 2)
  rw [show 2 ^ 1 * (a.toNat / 2) = a.toNat by omega] at h
  rw [← h]
  omega

theorem and_one (a : Int) (ha : 0 ≤ a) (ha2 : a < 18446744073709551616) : bits .and .u64 a 1 = a % 2 := by
  rw [u64_and a 1 ha ha2 (by omega) (by omega)]
  have h : (1 : Int).toNat = 1 := rfl
  rw [h, Nat.and_one_is_mod]
  omega

theorem u64w (n : Int) : IntKind.u64.wrap n = n % 18446744073709551616 := by rw [IntKind.wrap_u64]
theorem i64w (n : Int) (h0 : -9223372036854775808 ≤ n) (h1 : n ≤ 9223372036854775807) : wrap64 n = n := by unfold wrap64; omega

theorem double_eq (hi lo bit : Int) (h0 : 0 ≤ hi) (h1 : hi < 9223372036854775808) (l0 : 0 ≤ lo) (l1 : lo < 18446744073709551616) (b0 : 0 ≤ bit) (b1 : bit ≤ 1) :
    bellbuoyref01_double.f hi lo bit = some (2 * hi + lo / 9223372036854775808, (2 * lo) % 18446744073709551616 + bit) := by
  unfold bellbuoyref01_double.f
  rw [u64w, u64w, or_even _ _ (by omega) (by omega) (by omega) (by omega) (by omega), or_even _ _ (by omega) (by omega) (by omega) (by omega) (by omega)]
  simp only [Option.some.injEq, Prod.mk.injEq, and_true, true_and]
  omega

theorem plus_eq (ah al bh bl : Int) (h0 : 0 ≤ ah) (h1 : 0 ≤ al) (h2 : al < 18446744073709551616) (h3 : 0 ≤ bh) (h4 : 0 ≤ bl) (h5 : bl < 18446744073709551616) (h6 : ah + bh + 1 < 18446744073709551616 ∨ ah + bh < 18446744073709551616 ∧ al + bl < 18446744073709551616) :
    bellbuoyref01_plus.f ah al bh bl = some (ah + bh + (al + bl) / 18446744073709551616, (al + bl) % 18446744073709551616) := by
  unfold bellbuoyref01_plus.f
  simp only [u64w]
  by_cases hc : al + bl < 18446744073709551616
  · have e1 : (al + bl) / 18446744073709551616 = 0 := by omega
    have e2 : (al + bl) % 18446744073709551616 = al + bl := by omega
    rw [e1, e2, if_neg (by omega)]
    simp only [Option.some.injEq, Prod.mk.injEq, and_true, true_and]
    omega
  · have e1 : (al + bl) / 18446744073709551616 = 1 := by omega
    have e2 : (al + bl) % 18446744073709551616 = al + bl - 18446744073709551616 := by omega
    rw [e1, e2, if_pos (by omega)]
    simp only [Option.some.injEq, Prod.mk.injEq, and_true, true_and]
    omega

theorem pow_half (b : Int) (n : Nat) : b / 2 ^ (n + 1) = b / 2 ^ n / 2 := by
  rw [Int.pow_succ, Int.ediv_ediv_of_nonneg (Int.le_of_lt (Int.pow_pos (by omega)))]

theorem shr_u64 (b : Int) (n : Nat) (hn : n ≤ 64) : shr .u64 b (IntKind.u64.wrap (n : Int)) = b / 2 ^ n := by
  unfold shr
  rw [u64w]
  have h : ((n : Int) % 18446744073709551616).toNat = n := by omega
  rw [h, Nat.min_eq_left (by show n ≤ 64; exact hn)]

theorem times_l0 (a b : Int) (a0 : 0 ≤ a) (a1 : a < 18446744073709551616) (b0 : 0 ≤ b) (b1 : b < 18446744073709551616) :
    ∀ (n k : Nat) (hi lo : Int), n ≤ 64 → n < k → 0 ≤ hi → 0 ≤ lo → lo < 18446744073709551616 → hi * 18446744073709551616 + lo = a * (b / 2 ^ n) →
      bellbuoyref01_times.l0 k a b ((n : Int) - 1) hi lo = some ((a * b) / 18446744073709551616, (a * b) % 18446744073709551616) := by
  intro n
  induction n with
  | zero =>
    intro k hi lo hn hk h0 l0 l1 hv
    obtain ⟨k, rfl⟩ : ∃ m, k = m + 1 := ⟨k - 1, by omega⟩
    simp only [bellbuoyref01_times.l0]
    rw [if_neg (by omega)]
    rw [Int.pow_zero, Int.ediv_one] at hv
    simp only [Option.some.injEq, Prod.mk.injEq, and_true, true_and]
    omega
  | succ n ih =>
    intro k hi lo hn hk h0 l0 l1 hv
    obtain ⟨k, rfl⟩ : ∃ m, k = m + 1 := ⟨k - 1, by omega⟩
    have hq0 : 0 ≤ b / 2 ^ n := Int.ediv_nonneg b0 (Int.le_of_lt (Int.pow_pos (by omega)))
    have hq1 : b / 2 ^ n ≤ b := Int.ediv_le_self _ b0
    have hh := pow_half b n
    rw [hh] at hv
    generalize hq : b / 2 ^ n = q at *
    have hab : a * q ≤ a * b := Int.mul_le_mul_of_nonneg_left hq1 a0
    have hab2 : a * b < 18446744073709551616 * 18446744073709551616 := by
      have h1 : a * b ≤ a * 18446744073709551615 := Int.mul_le_mul_of_nonneg_left (by omega) a0
      omega
    have hqq : q = 2 * (q / 2) + q % 2 := by omega
    have hbit : q % 2 = 0 ∨ q % 2 = 1 := by omega
    have hmul : a * q = 2 * (a * (q / 2)) + a * (q % 2) := by
      have : a * q = a * (2 * (q / 2) + q % 2) := by rw [← hqq]
      rw [this, Int.mul_add]
      have h2 : a * (2 * (q / 2)) = 2 * (a * (q / 2)) := by rw [← Int.mul_assoc, ← Int.mul_assoc, Int.mul_comm a 2]
      rw [h2]
    have hpos : 0 ≤ a * (q / 2) := Int.mul_nonneg a0 (by omega)
    generalize a * (q / 2) = p at *
    simp only [bellbuoyref01_times.l0]
    rw [show ((n + 1 : Nat) : Int) - 1 = (n : Int) by omega, if_pos (by omega)]
    have hlt : p < 9223372036854775808 * 18446744073709551616 := by
      rcases hbit with h | h
      · rw [h, Int.mul_zero] at hmul; omega
      · rw [h, Int.mul_one] at hmul; omega
    rw [double_eq hi lo 0 h0 (by omega) l0 l1 (by omega) (by omega)]
    simp only [Option.bind_some]
    rw [if_pos (by rw [u64w]; omega), shr_u64 _ _ (by omega), hq, and_one _ hq0 (by omega), i64w _ (by omega) (by omega)]
    rcases hbit with h | h
    · rw [h, Int.mul_zero] at hmul
      rw [if_neg (by omega)]
      exact ih k _ _ (by omega) (by omega) (by omega) (by omega) (by omega) (by omega)
    · rw [h, Int.mul_one] at hmul
      rw [if_pos h, plus_eq _ _ _ _ (by omega) (by omega) (by omega) (by omega) a0 a1 (by omega)]
      simp only [Option.bind_some]
      exact ih k _ _ (by omega) (by omega) (by omega) (by omega) (by omega) (by omega)

/-- 'times' is the product, in two halves. -/
theorem times_eq (a b : Int) (a0 : 0 ≤ a) (a1 : a < 18446744073709551616) (b0 : 0 ≤ b) (b1 : b < 18446744073709551616) (k : Nat) (hk : 65 ≤ k) :
    bellbuoyref01_times.f k a b = some ((a * b) / 18446744073709551616, (a * b) % 18446744073709551616) := by
  unfold bellbuoyref01_times.f
  refine times_l0 a b a0 a1 b0 b1 64 k 0 0 (by omega) (by omega) (by omega) (by omega) (by omega) ?_
  rw [Int.ediv_eq_zero_of_lt b0 (by simpa using b1)]
  simp

theorem wide_hi (wh wl : Int) (l0 : 0 ≤ wl) (l1 : wl < 18446744073709551616) (m : Nat) : (wh * 18446744073709551616 + wl) / 2 ^ (64 + m) = wh / 2 ^ m := by
  rw [Int.pow_add, ← Int.ediv_ediv_of_nonneg (by decide)]
  congr 1
  rw [show (2 : Int) ^ 64 = 18446744073709551616 from rfl]
  omega

theorem wide_lo (wh wl : Int) (n : Nat) (hn : n < 64) : ((wh * 18446744073709551616 + wl) / 2 ^ n) % 2 = (wl / 2 ^ n) % 2 := by
  obtain ⟨m, hm⟩ : ∃ m, 64 = n + 1 + m := ⟨63 - n, by omega⟩
  have h1 : (18446744073709551616 : Int) = 2 ^ m * 2 * 2 ^ n := by
    rw [show (18446744073709551616 : Int) = 2 ^ 64 from rfl, hm, Int.pow_add, Int.pow_add, Int.pow_one, Int.mul_comm, Int.mul_comm (2 ^ n) 2, Int.mul_assoc]
  rw [h1, ← Int.mul_assoc, ← Int.mul_assoc, Int.add_comm, Int.add_mul_ediv_right _ _ (Int.ne_of_gt (Int.pow_pos (by omega)))]
  generalize wh * 2 ^ m = c
  omega

theorem over_l0 (wh wl d : Int) (w0 : 0 ≤ wh) (w1 : wh < 18446744073709551616) (l0 : 0 ≤ wl) (l1 : wl < 18446744073709551616) (d0 : 1 ≤ d) (d1 : d ≤ 9223372036854775808) :
    ∀ (n k : Nat) (left qh ql : Int), n ≤ 128 → n < k → 0 ≤ left → left < d → 0 ≤ qh → 0 ≤ ql → ql < 18446744073709551616 →
      (wh * 18446744073709551616 + wl) / 2 ^ n = (qh * 18446744073709551616 + ql) * d + left →
      bellbuoyref01_over.l0 k d left ((n : Int) - 1) wh wl qh ql =
        some (((wh * 18446744073709551616 + wl) / d) / 18446744073709551616, ((wh * 18446744073709551616 + wl) / d) % 18446744073709551616, (wh * 18446744073709551616 + wl) % d) := by
  intro n
  induction n with
  | zero =>
    intro k left qh ql hn hk h0 h1 q0 q1 q2 hv
    obtain ⟨k, rfl⟩ : ∃ m, k = m + 1 := ⟨k - 1, by omega⟩
    simp only [bellbuoyref01_over.l0]
    rw [if_neg (by omega)]
    rw [Int.pow_zero, Int.ediv_one] at hv
    rw [hv]
    have hu := (Int.ediv_emod_unique (a := (qh * 18446744073709551616 + ql) * d + left) (r := left) (q := qh * 18446744073709551616 + ql) (b := d) (by omega)).2 ⟨by rw [Int.mul_comm d]; omega, h0, h1⟩
    rw [hu.1, hu.2]
    simp only [Option.some.injEq, Prod.mk.injEq, and_true, true_and]
    omega
  | succ n ih =>
    intro k left qh ql hn hk h0 h1 q0 q1 q2 hv
    obtain ⟨k, rfl⟩ : ∃ m, k = m + 1 := ⟨k - 1, by omega⟩
    have hW0 : 0 ≤ wh * 18446744073709551616 + wl := by omega
    have hW1 : wh * 18446744073709551616 + wl < 340282366920938463463374607431768211456 := by omega
    have hq0 : 0 ≤ (wh * 18446744073709551616 + wl) / 2 ^ n := Int.ediv_nonneg hW0 (Int.le_of_lt (Int.pow_pos (by omega)))
    have hq1 : (wh * 18446744073709551616 + wl) / 2 ^ n ≤ wh * 18446744073709551616 + wl := Int.ediv_le_self _ hW0
    have hh := pow_half (wh * 18446744073709551616 + wl) n
    have hhi : ∀ m, n = 64 + m → wh / 2 ^ m = (wh * 18446744073709551616 + wl) / 2 ^ n := fun m hm => by rw [hm]; exact (wide_hi wh wl l0 l1 m).symm
    have hlo : n < 64 → (wl / 2 ^ n) % 2 = ((wh * 18446744073709551616 + wl) / 2 ^ n) % 2 := fun hm => (wide_lo wh wl n hm).symm
    rw [hh] at hv
    have goal : ∀ r, bellbuoyref01_over.l0 (k + 1) d left ((n + 1 : Nat) - 1 : Int) wh wl qh ql = r ↔ bellbuoyref01_over.l0 (k + 1) d left ((n + 1 : Nat) - 1 : Int) wh wl qh ql = r := fun _ => Iff.rfl
    have hQ : (qh * 18446744073709551616 + ql) ≤ (qh * 18446744073709551616 + ql) * d := by
      have := Int.mul_le_mul_of_nonneg_left (a := 1) (b := d) (c := qh * 18446744073709551616 + ql) d0 (by omega)
      omega
    have hdist : (2 * (qh * 18446744073709551616 + ql)) * d = 2 * ((qh * 18446744073709551616 + ql) * d) := Int.mul_assoc _ _ _
    have hdist1 : (2 * (qh * 18446744073709551616 + ql) + 1) * d = 2 * ((qh * 18446744073709551616 + ql) * d) + d := by rw [Int.add_mul, Int.one_mul, hdist]
    have key : ∀ (b : Int), b = ((wh * 18446744073709551616 + wl) / 2 ^ n) % 2 →
        ((bellbuoyref01_double.f qh ql 0).bind fun bt => (if (Go.bits .or .u64 (IntKind.u64.wrap (left * 2)) b) ≥ d then (bellbuoyref01_over.l0 k d (IntKind.u64.wrap ((Go.bits .or .u64 (IntKind.u64.wrap (left * 2)) b) - d)) (wrap64 ((n : Int) - 1)) wh wl bt.1 (Go.bits .or .u64 bt.2 1)) else (bellbuoyref01_over.l0 k d (Go.bits .or .u64 (IntKind.u64.wrap (left * 2)) b) (wrap64 ((n : Int) - 1)) wh wl bt.1 bt.2))) =
        some (((wh * 18446744073709551616 + wl) / d) / 18446744073709551616, ((wh * 18446744073709551616 + wl) / d) % 18446744073709551616, (wh * 18446744073709551616 + wl) % d) := by
      intro b hb
      rw [double_eq qh ql 0 q0 (by omega) q1 q2 (by omega) (by omega)]
      simp only [Option.bind_some]
      have hw : IntKind.u64.wrap (left * 2) = left * 2 := by rw [u64w]; omega
      rw [hw, or_even _ _ (by omega) (by omega) (by omega) (by omega) (by omega), i64w _ (by omega) (by omega)]
      have hQe : (2 * qh + ql / 9223372036854775808) * 18446744073709551616 + (2 * ql % 18446744073709551616 + 0) = 2 * (qh * 18446744073709551616 + ql) := by omega
      split
      · rw [or_even _ _ (by omega) (by omega) (by omega) (by omega) (by omega)]
        have hw2 : IntKind.u64.wrap (left * 2 + b - d) = left * 2 + b - d := by rw [u64w]; omega
        rw [hw2]
        refine ih k _ _ _ (by omega) (by omega) (by omega) (by omega) (by omega) (by omega) (by omega) ?_
        rw [show (2 * qh + ql / 9223372036854775808) * 18446744073709551616 + (2 * ql % 18446744073709551616 + 0 + 1) = 2 * (qh * 18446744073709551616 + ql) + 1 by omega, hdist1]
        omega
      · refine ih k _ _ _ (by omega) (by omega) (by omega) (by omega) (by omega) (by omega) (by omega) ?_
        rw [hQe, hdist]
        omega
    simp only [bellbuoyref01_over.l0]
    rw [show ((n + 1 : Nat) : Int) - 1 = (n : Int) by omega, if_pos (by omega)]
    by_cases h64 : 64 ≤ n
    · obtain ⟨m, hm⟩ : ∃ m, n = 64 + m := ⟨n - 64, by omega⟩
      rw [if_pos (by omega), if_pos (by rw [u64w, i64w _ (by omega) (by omega)]; omega), i64w ((n : Int) - 64) (by omega) (by omega), show ((n : Int) - 64) = (m : Int) by omega, shr_u64 _ _ (by omega), hhi m hm, and_one _ hq0 (by
        rw [← hhi m hm]
        have := Int.ediv_le_self (2 ^ m) w0
        omega)]
      exact key _ rfl
    · rw [if_neg (by omega), if_pos (by rw [u64w]; omega), shr_u64 _ _ (by omega), and_one _ (Int.ediv_nonneg l0 (Int.le_of_lt (Int.pow_pos (by omega)))) (by
        have := Int.ediv_le_self (2 ^ n) l0
        omega), hlo (by omega)]
      exact key _ rfl

/-- 'over' is the quotient, in two halves, and what is left. -/
theorem over_eq (wh wl d : Int) (w0 : 0 ≤ wh) (w1 : wh < 18446744073709551616) (l0 : 0 ≤ wl) (l1 : wl < 18446744073709551616) (d0 : 1 ≤ d) (d1 : d ≤ 9223372036854775808) (k : Nat) (hk : 129 ≤ k) :
    bellbuoyref01_over.f k wh wl d = some (((wh * 18446744073709551616 + wl) / d) / 18446744073709551616, ((wh * 18446744073709551616 + wl) / d) % 18446744073709551616, (wh * 18446744073709551616 + wl) % d) := by
  unfold bellbuoyref01_over.f
  refine over_l0 wh wl d w0 w1 l0 l1 d0 d1 128 k 0 0 0 (by omega) (by omega) (by omega) (by omega) (by omega) (by omega) (by omega) ?_
  rw [show (2 : Int) ^ 128 = 340282366920938463463374607431768211456 from rfl]
  omega

theorem size_eq (a : Int) (h0 : -9223372036854775808 ≤ a) (h1 : a ≤ 9223372036854775807) : bellbuoyref01_size.f a = some (if a < 0 then -a else a) := by
  unfold bellbuoyref01_size.f
  simp only [u64w]
  split
  · simp only [Option.some.injEq]; omega
  · simp only [Option.some.injEq]; omega

/-- A number that is one of 64 bits, or none. -/
def fits (x : Int) : Int × Bool := if -9223372036854775808 ≤ x ∧ x ≤ 9223372036854775807 then (x, true) else (0, false)
def sgn (v : Int) (below : Bool) : Int × Bool := fits (if below = true then -v else v)

theorem signed_eq (hi lo : Int) (below : Bool) (h0 : 0 ≤ hi) (l0 : 0 ≤ lo) (l1 : lo < 18446744073709551616) (k : Nat) (hk : 1 ≤ k) :
    bellbuoyref01_signed.f k hi lo below = some (sgn (hi * 18446744073709551616 + lo) below) := by
  obtain ⟨k, rfl⟩ : ∃ m, k = m + 1 := ⟨k - 1, by omega⟩
  unfold bellbuoyref01_signed.f
  simp only [bellbuoyref01_signed.j0, sgn, fits, u64w]
  cases below
  · simp only [Bool.false_eq_true, if_false, Bool.not_false, if_true]
    split
    · split
      · rw [if_neg (by omega)]
      · split
        · rw [if_neg (by omega)]
        · rw [if_pos (by omega), i64w _ (by omega) (by omega)]
          simp only [Option.some.injEq, Prod.mk.injEq, and_true]; omega
    · rw [if_neg (by omega)]
  · simp only [if_true, Bool.not_true, Bool.false_eq_true, if_false]
    split
    · split
      · rw [if_neg (by omega)]
      · have hw : wrap64 (-lo % 18446744073709551616) = -(hi * 18446744073709551616 + lo) := by unfold wrap64; omega
        split
        · rw [if_pos (by omega), hw]
        · rw [if_pos (by omega), hw]
    · rw [if_neg (by omega)]
theorem two_cells {W w5 : World} {x y : Value} {t : TypeId} (hx : x.oneCell' = true) (hy : y.oneCell' = true) (hb : Below (W.alloc (.cells #[x, y] t)).heap.size (W.alloc (.cells #[x, y] t)) w5) :
    w5.cell? ⟨W.heap.size, 0, none⟩ = some x ∧ w5.cell? ⟨W.heap.size, 1, none⟩ = some y ∧ w5.frozen? ⟨W.heap.size, 0, none⟩ = false ∧ w5.frozen? ⟨W.heap.size, 1, none⟩ = false ∧ W.heap.size < w5.heap.size :=
  ⟨pw_cell_below hb (by simp), pw_cell_below hb (by simp), (hb.frozen (p := ⟨W.heap.size, 0, none⟩) (by simp)).trans (by simp), (hb.frozen (p := ⟨W.heap.size, 1, none⟩) (by simp)).trans (by simp), by have := hb.size; simp at this; omega⟩
set_option maxHeartbeats 4000000 in
set_option maxRecDepth 100000 in
theorem Scale_walk (k : Nat) (a b d sa sb p1 p2 q1 q2 l u1 u2 r1 : Int) (r2 va vb vl vbel : Bool) (w : World) (ha : decide (a < 0) = va) (hb : decide (b < 0) = vb) (hl : decide (0 < l) = vl) (hd : decide (d < 1) = false)
    (hsa : bellbuoyref01_size.f a = some sa) (hsb : bellbuoyref01_size.f b = some sb) (ht : bellbuoyref01_times.f k sa sb = some (p1, p2)) (hov : bellbuoyref01_over.f k p1 p2 (IntKind.u64.wrap d) = some (q1, q2, l))
    (hbel : (va != vb) = vbel)
    (hpl : (vbel && vl) = true → bellbuoyref01_plus.f q1 q2 0 1 = some (u1, u2) ∧ bellbuoyref01_signed.f k u1 u2 vbel = some (r1, r2))
    (hnp : (vbel && vl) = false → bellbuoyref01_signed.f k q1 q2 vbel = some (r1, r2)) :
    Calls Try.prog 29 #[.int .i64 a, .int .i64 b, .int .i64 d] w fun e w' => e = .returned (.tuple #[.int .i64 r1, .bool r2]) ∧ Below w.heap.size w w' := by
  have hu40 := Try.underlying56
  have Ha := Aside0.mk hsa; clear hsa
  have Hb := Aside0.mk hsb; clear hsb
  have Ht := Aside0.mk ht; clear ht
  have Ho := Aside0.mk hov; clear hov
  have Hp := Aside0.mk hpl; clear hpl
  have Hn := Aside0.mk hnp; clear hnp
  have Hbel := Aside0.mk hbel; clear hbel
  cases va <;> cases vb <;> cases vl <;> cases vbel <;> first | exact absurd Hbel.out (by decide) | skip
  all_goals
    go_enter Try.func29, Try.ntmps29
    go_wp2_with (first | (go_at_call 32; (with_reducible refine (bellbuoyref01_size.calls a sa _ Ha.out).mono ?_); rintro e w1 ⟨rfl, ⟨n1, rfl⟩⟩) | (go_at_call 32; (with_reducible refine (bellbuoyref01_size.calls b sb _ Hb.out).mono ?_); rintro e w2 ⟨rfl, ⟨n2, rfl⟩⟩) | (go_at_call 31; (with_reducible refine (bellbuoyref01_times.calls k sa sb p1 p2 _ Ht.out).mono ?_); rintro e w3 ⟨rfl, hb3⟩; have B3 : Below w.heap.size w w3 := below_step (by repeat (first | exact Below.refl _ _ | assumption | apply below_alloc | apply pw_below_drewN | apply below_drew1)) hb3; clear hb3) | (go_at_call 30; (with_reducible refine (bellbuoyref01_over.calls k p1 p2 _ q1 q2 l _ Ho.out).mono ?_); rintro e w4 ⟨rfl, hb4⟩; have B4 : Below w.heap.size w w4 := below_step (by repeat (first | exact Below.refl _ _ | assumption | apply below_alloc | apply pw_below_drewN | apply below_drew1)) hb4; clear hb4 B3) | (go_at_call 33; (with_reducible refine (bellbuoyref01_plus.calls q1 q2 0 1 u1 u2 _ (Hp.out rfl).1).mono ?_); rintro e w5 ⟨rfl, hb5⟩; obtain ⟨c0, c1, f0, f1, z5⟩ := two_cells rfl rfl hb5; have B5 : Below w.heap.size w w5 := below_step (by repeat (first | exact Below.refl _ _ | assumption | apply below_alloc | apply pw_below_drewN | apply below_drew1)) hb5; clear hb5) | (go_at_call 34; (with_reducible refine (bellbuoyref01_signed.calls k q1 q2 _ r1 r2 _ (Hn.out rfl)).mono ?_); rintro e w6 ⟨rfl, hb6⟩) | (go_at_call 34; (with_reducible refine (bellbuoyref01_signed.calls k u1 u2 _ r1 r2 _ (Hp.out rfl).2).mono ?_); rintro e w6 ⟨rfl, hb6⟩))
    go_ret2
    exact ⟨rfl, below_step (by repeat (first | exact Below.refl _ _ | exact B5 | exact B4 | apply below_alloc | apply pw_below_drewN | apply below_drew1 | refine below_set ?_ B4.size)) hb6⟩
def In64 (a : Int) : Prop := -9223372036854775808 ≤ a ∧ a ≤ 9223372036854775807
instance (a : Int) : Decidable (In64 a) := by unfold In64; infer_instance
def bellbuoyref01_Scale.f (a0 : Int) (a1 : Int) (a2 : Int) : Option (Int × Bool) := if a2 < 1 then some (0, false) else if In64 a0 ∧ In64 a1 ∧ In64 a2 then some (fits (a0 * a1 / a2)) else none
theorem Scale_pos (a b d : Int) (a0 : -9223372036854775808 ≤ a) (a1 : a ≤ 9223372036854775807) (b0 : -9223372036854775808 ≤ b) (b1 : b ≤ 9223372036854775807) (d0 : 1 ≤ d) (d1 : d ≤ 9223372036854775807) (r1 : Int) (r2 : Bool) (hr : fits (a * b / d) = (r1, r2)) (w : World) :
    Calls Try.prog 29 #[.int .i64 a, .int .i64 b, .int .i64 d] w fun e w' => e = .returned (.tuple #[.int .i64 r1, .bool r2]) ∧ Below w.heap.size w w' := by
  have hP : ∃ P, (if a < 0 then -a else a) * (if b < 0 then -b else b) = P ∧ 0 ≤ P ∧ P ≤ 85070591730234615865843651857942052864 ∧ a * b = if (decide (a < 0) != decide (b < 0)) = true then -P else P := by
    refine ⟨_, rfl, Int.mul_nonneg (by split <;> omega) (by split <;> omega), ?_, ?_⟩
    · have h1 : (if a < 0 then -a else a) * (if b < 0 then -b else b) ≤ 9223372036854775808 * 9223372036854775808 :=
        Int.mul_le_mul (by split <;> omega) (by split <;> omega) (by split <;> omega) (by omega)
      omega
    · by_cases ha : a < 0 <;> by_cases hb : b < 0 <;> simp [ha, hb, Int.neg_mul, Int.mul_neg]
  obtain ⟨P, hP1, hP2, hP3, hP4⟩ := hP
  have ht := times_eq (if a < 0 then -a else a) (if b < 0 then -b else b) (by split <;> omega) (by split <;> omega) (by split <;> omega) (by split <;> omega) 131 (by omega)
  rw [hP1] at ht
  have hu : IntKind.u64.wrap d = d := by rw [u64w]; omega
  have ho := over_eq (P / 18446744073709551616) (P % 18446744073709551616) d (by omega) (by omega) (by omega) (by omega) d0 (by omega) 131 (by omega)
  have hPP : P / 18446744073709551616 * 18446744073709551616 + P % 18446744073709551616 = P := by omega
  rw [hPP] at ho
  have hq0 : 0 ≤ P / d := Int.ediv_nonneg hP2 (by omega)
  have hq1 : P / d ≤ P := Int.ediv_le_self _ hP2
  have hr0 : 0 ≤ P % d := Int.emod_nonneg _ (by omega)
  have hr1 : P % d < d := Int.emod_lt_of_pos _ (by omega)
  have hdm := Int.mul_ediv_add_emod P d
  rw [hP4] at hr
  generalize hq : P / d = q at *
  generalize hrr : P % d = r at *
  have hqq : q / 18446744073709551616 * 18446744073709551616 + q % 18446744073709551616 = q := by omega
  rw [← hu] at ho
  refine Scale_walk 131 a b d _ _ _ _ _ _ r (q / 18446744073709551616 + 0 + (q % 18446744073709551616 + 1) / 18446744073709551616) ((q % 18446744073709551616 + 1) % 18446744073709551616) r1 r2 _ _ _ (decide (a < 0) != decide (b < 0)) w rfl rfl rfl (by simp; omega) (size_eq a a0 a1) (size_eq b b0 b1) ht ho rfl ?_ ?_
  · intro hb
    rw [Bool.and_eq_true] at hb
    obtain ⟨hb1, hb2⟩ := hb
    have hz : 0 < r := by simpa using hb2
    refine ⟨plus_eq _ _ _ _ (by omega) (by omega) (by omega) (by omega) (by omega) (by omega) (by omega), ?_⟩
    rw [signed_eq _ _ _ (by omega) (by omega) (by omega) _ (by omega), hb1, ← hr, hb1]
    have hfl : -P / d = -(q + 1) := by
      refine ((Int.ediv_emod_unique (a := -P) (r := d - r) (q := -(q + 1)) (b := d) (by omega)).2 ⟨?_, by omega, by omega⟩).1
      rw [Int.mul_neg, Int.mul_add, Int.mul_one]
      omega
    simp only [sgn, if_true, hfl]
    rw [show (q / 18446744073709551616 + 0 + (q % 18446744073709551616 + 1) / 18446744073709551616) * 18446744073709551616 + (q % 18446744073709551616 + 1) % 18446744073709551616 = q + 1 by omega]
  · intro hb
    rw [signed_eq _ _ _ (by omega) (by omega) (by omega) _ (by omega), hqq, ← hr]
    cases hc : (decide (a < 0) != decide (b < 0)) with
    | true =>
      rw [hc, Bool.true_and] at hb
      have hz : ¬ 0 < r := by simpa using hb
      have hfl : -P / d = -q := by
        refine ((Int.ediv_emod_unique (a := -P) (r := 0) (q := -q) (b := d) (by omega)).2 ⟨?_, by omega, by omega⟩).1
        rw [Int.mul_neg]
        omega
      simp only [sgn, if_true, hfl]
    | false => simp only [sgn, Bool.false_eq_true, if_false, hq]
set_option maxHeartbeats 4000000 in
set_option maxRecDepth 100000 in
theorem Scale_none (a b d : Int) (w : World) (hd : decide (d < 1) = true) :
    Calls Try.prog 29 #[.int .i64 a, .int .i64 b, .int .i64 d] w fun e w' => e = .returned (.tuple #[.int .i64 0, .bool false]) ∧ Below w.heap.size w w' := by
  go_enter Try.func29, Try.ntmps29
  go_wp2
  go_ret2
  exact ⟨rfl, Below.refl _ _⟩
theorem bellbuoyref01_Scale.calls (a0 : Int) (a1 : Int) (a2 : Int) (r1 : Int) (r2 : Bool) (w : World) (h : bellbuoyref01_Scale.f a0 a1 a2 = some (r1, r2)) :
    Calls Try.prog 29 #[.int .i64 a0, .int .i64 a1, .int .i64 a2] w fun e w' => e = .returned (.tuple #[.int .i64 r1, .bool r2]) ∧ Below w.heap.size w w' := by
  unfold bellbuoyref01_Scale.f at h
  by_cases hd : a2 < 1
  · rw [if_pos hd] at h
    simp only [Option.some.injEq, Prod.mk.injEq] at h
    obtain ⟨rfl, rfl⟩ := h
    exact Scale_none a0 a1 a2 w (by simpa using hd)
  · rw [if_neg hd] at h
    by_cases hi : In64 a0 ∧ In64 a1 ∧ In64 a2
    · rw [if_pos hi] at h
      exact Scale_pos a0 a1 a2 hi.1.1 hi.1.2 hi.2.1.1 hi.2.1.2 (by omega) hi.2.2.2 r1 r2 (Option.some.inj h) w
    · rw [if_neg hi] at h
      exact absurd h (by simp)

/-! ### bellbuoyref01_Div: function 27 -/
def bellbuoyref01_Div.f (a0 : Int) (a1 : Int) : Option (Int × Bool) := (bellbuoyref01_Scale.f a0 1 a1).bind fun bt135 => (some (bt135.1, bt135.2))
set_option maxHeartbeats 8000000 in
set_option maxRecDepth 100000 in
theorem bellbuoyref01_Div.calls (a0 : Int) (a1 : Int) (r1 : Int) (r2 : Bool) (w : World) (h : bellbuoyref01_Div.f a0 a1 = some (r1, r2)) :
    Calls Try.prog 27 #[.int .i64 a0, .int .i64 a1] w fun e w' => e = .returned (.tuple #[.int .i64 r1, .bool r2]) ∧ Below w.heap.size w w' := by
  have HB := Aside0.mk (Below.refl w.heap.size w)
  have H : ((bellbuoyref01_Scale.f a0 1 a1).bind fun bt135 => (some (bt135.1, bt135.2))) = some (r1, r2) := h
  clear h
  replace H := Option.bind_eq_some_iff.mp H
  obtain ⟨⟨t135, t136⟩, A30, H⟩ := H
  replace H : (some (t135, t136)) = some (r1, r2) := H
  have A3 := Aside0.mk A30
  clear A30
  simp only [Option.some.injEq, Prod.mk.injEq] at H
  obtain ⟨rfl, rfl⟩ := H
  go_enter Try.func27, Try.ntmps27
  go_wp2_with (first | ((with_reducible refine gate_callee (f := 29) rfl ?_); refine goesL_ (some 8) rfl rfl Try.func29 (by kernel_rfl) rfl #[.int .i64 a0, .int .i64 1, .int .i64 a1] rfl (by (try simp only [List.map_toArray, List.map_cons, List.map_nil]); first | done | rfl | (simp only [List.length_drop, List.length_take]; rfl)) ?_; (with_reducible refine (bellbuoyref01_Scale.calls a0 1 a1 t135 t136 _ A3.out).mono ?_); rintro e w4 ⟨rfl, hb⟩; refine ⟨_, rfl, ?_⟩; have n0_ := Aside0.mk (below_step (by repeat (first | (with_reducible first | exact HB.out | apply below_alloc | apply pw_below_drewN | apply below_drew1) | exact HB.out)) hb); clear HB; have HB := n0_; clear n0_; (try clear hb); (try clear hb2); (try clear hk); (try clear hi)))
  go_ret2
  exact ⟨by first | rfl | (simp [errW_none, errW_some] <;> rfl) | (simp [*, errW_none, errW_some] <;> rfl), by repeat (first | (with_reducible first | exact HB.out | apply below_alloc | apply pw_below_drewN | apply below_drew1) | exact HB.out)⟩

/-! ### bellbuoyref01_Mod: function 25 -/
def bellbuoyref01_Mod.f (a0 : Int) (a1 : Int) : Option (Int × Bool) := (bellbuoyref01_Div.f a0 a1).bind fun bt137 => (if bt137.2 = true then (some (wrap64 (a0 - (wrap64 (a1 * bt137.1))), true)) else (some (0, false)))
set_option maxHeartbeats 8000000 in
set_option maxRecDepth 100000 in
theorem bellbuoyref01_Mod.calls (a0 : Int) (a1 : Int) (r1 : Int) (r2 : Bool) (w : World) (h : bellbuoyref01_Mod.f a0 a1 = some (r1, r2)) :
    Calls Try.prog 25 #[.int .i64 a0, .int .i64 a1] w fun e w' => e = .returned (.tuple #[.int .i64 r1, .bool r2]) ∧ Below w.heap.size w w' := by
  have HB := Aside0.mk (Below.refl w.heap.size w)
  have H : ((bellbuoyref01_Div.f a0 a1).bind fun bt137 => (if bt137.2 = true then (some (wrap64 (a0 - (wrap64 (a1 * bt137.1))), true)) else (some (0, false)))) = some (r1, r2) := h
  clear h
  replace H := Option.bind_eq_some_iff.mp H
  obtain ⟨⟨t137, t138⟩, A30, H⟩ := H
  replace H : (if t138 = true then (some (wrap64 (a0 - (wrap64 (a1 * t137))), true)) else (some (0, false))) = some (r1, r2) := H
  have A3 := Aside0.mk A30
  clear A30
  by_cases c4 : t138 = true
  · subst c4
    have H1 : (some (wrap64 (a0 - (wrap64 (a1 * t137))), true)) = some (r1, r2) := by rw [if_pos rfl] at H; exact H
    clear H
    have H := H1
    clear H1
    simp only [Option.some.injEq, Prod.mk.injEq] at H
    obtain ⟨rfl, rfl⟩ := H
    go_enter Try.func25, Try.ntmps25
    go_wp2_with (first | ((with_reducible refine gate_callee (f := 27) rfl ?_); refine goesL_ (some 11) rfl rfl Try.func27 (by kernel_rfl) rfl #[.int .i64 a0, .int .i64 a1] rfl (by (try simp only [List.map_toArray, List.map_cons, List.map_nil]); first | done | rfl | (simp only [List.length_drop, List.length_take]; rfl)) ?_; (with_reducible refine (bellbuoyref01_Div.calls a0 a1 t137 true _ A3.out).mono ?_); rintro e w5 ⟨rfl, hb⟩; refine ⟨_, rfl, ?_⟩; have n0_ := Aside0.mk (below_step (by repeat (first | (with_reducible first | exact HB.out | apply below_alloc | apply pw_below_drewN | apply below_drew1) | exact HB.out)) hb); clear HB; have HB := n0_; clear n0_; (try clear hb); (try clear hb2); (try clear hk); (try clear hi)))
    go_ret2
    exact ⟨by first | rfl | (simp [errW_none, errW_some] <;> rfl) | (simp [*, errW_none, errW_some] <;> rfl), by repeat (first | (with_reducible first | exact HB.out | apply below_alloc | apply pw_below_drewN | apply below_drew1) | exact HB.out)⟩
  · replace c4 := Bool.eq_false_iff.mpr c4
    subst c4
    have H1 : (some (0, false)) = some (r1, r2) := by rw [if_neg (show ¬ (false = true) by decide)] at H; exact H
    clear H
    have H := H1
    clear H1
    simp only [Option.some.injEq, Prod.mk.injEq] at H
    obtain ⟨rfl, rfl⟩ := H
    go_enter Try.func25, Try.ntmps25
    go_wp2_with (first | ((with_reducible refine gate_callee (f := 27) rfl ?_); refine goesL_ (some 11) rfl rfl Try.func27 (by kernel_rfl) rfl #[.int .i64 a0, .int .i64 a1] rfl (by (try simp only [List.map_toArray, List.map_cons, List.map_nil]); first | done | rfl | (simp only [List.length_drop, List.length_take]; rfl)) ?_; (with_reducible refine (bellbuoyref01_Div.calls a0 a1 t137 false _ A3.out).mono ?_); rintro e w6 ⟨rfl, hb⟩; refine ⟨_, rfl, ?_⟩; have n0_ := Aside0.mk (below_step (by repeat (first | (with_reducible first | exact HB.out | apply below_alloc | apply pw_below_drewN | apply below_drew1) | exact HB.out)) hb); clear HB; have HB := n0_; clear n0_; (try clear hb); (try clear hb2); (try clear hk); (try clear hi)))
    go_ret2
    exact ⟨by first | rfl | (simp [errW_none, errW_some] <;> rfl) | (simp [*, errW_none, errW_some] <;> rfl), by repeat (first | (with_reducible first | exact HB.out | apply below_alloc | apply pw_below_drewN | apply below_drew1) | exact HB.out)⟩

/-! ### bellbuoyref16_Stamp: function 20 -/
def bellbuoyref16_Stamp.f (a0 : Int) (a1 : Int) : Option (Int) := if a1 < 1 then (some 0) else (if a1 > 62 then (some 0) else (if 0 ≤ (IntKind.u64.wrap (a1)) then ((bellbuoyref01_Mod.f a0 (shl .i64 1 (IntKind.u64.wrap (a1)))).bind fun bt139 => (some (IntKind.u64.wrap (bt139.1)))) else (none)))
set_option maxHeartbeats 8000000 in
set_option maxRecDepth 100000 in
theorem bellbuoyref16_Stamp.calls (a0 : Int) (a1 : Int) (r : Int) (w : World) (h : bellbuoyref16_Stamp.f a0 a1 = some r) :
    Calls Try.prog 20 #[.int .i64 a0, .int .i64 a1] w fun e w' => e = .returned (.int .u64 r) ∧ Below w.heap.size w w' := by
  have HB := Aside0.mk (Below.refl w.heap.size w)
  have H : (if a1 < 1 then (some 0) else (if a1 > 62 then (some 0) else (if 0 ≤ (IntKind.u64.wrap (a1)) then ((bellbuoyref01_Mod.f a0 (shl .i64 1 (IntKind.u64.wrap (a1)))).bind fun bt139 => (some (IntKind.u64.wrap (bt139.1)))) else (none)))) = some r := h
  clear h
  by_cases c3 : a1 < 1
  · rw [if_pos c3] at H
    have c3b0 : decide (a1 < 1) = true := decide_eq_true c3
    clear c3
    obtain rfl := Option.some.inj H
    go_enter Try.func20, Try.ntmps20
    go_wp2
    go_ret
    exact ⟨by first | rfl | (simp [errW_none, errW_some] <;> rfl) | (simp [*, errW_none, errW_some] <;> rfl), by repeat (first | (with_reducible first | exact HB.out | apply below_alloc | apply pw_below_drewN | apply below_drew1) | exact HB.out)⟩
  · rw [if_neg c3] at H
    have c3b0 : decide (a1 < 1) = false := decide_eq_false c3
    clear c3
    by_cases c4 : a1 > 62
    · rw [if_pos c4] at H
      have c4b0 : decide (62 < a1) = true := decide_eq_true c4
      clear c4
      obtain rfl := Option.some.inj H
      go_enter Try.func20, Try.ntmps20
      go_wp2
      go_ret
      exact ⟨by first | rfl | (simp [errW_none, errW_some] <;> rfl) | (simp [*, errW_none, errW_some] <;> rfl), by repeat (first | (with_reducible first | exact HB.out | apply below_alloc | apply pw_below_drewN | apply below_drew1) | exact HB.out)⟩
    · rw [if_neg c4] at H
      have c4b0 : decide (62 < a1) = false := decide_eq_false c4
      clear c4
      obtain ⟨ji5, hji5⟩ : ∃ j_ : Int, (IntKind.u64.wrap (a1)) = j_ := ⟨_, rfl⟩
      replace H : (if 0 ≤ (ji5) then ((bellbuoyref01_Mod.f a0 (shl .i64 1 (ji5))).bind fun bt139 => (some (IntKind.u64.wrap (bt139.1)))) else (none)) = some r := by first | (rw [hji5] at H; exact H) | (simp only [hji5] at H ⊢; exact H)
      by_cases c6 : 0 ≤ (ji5)
      · rw [if_pos c6] at H
        have c6b0 := eq_true c6
        have c6b1 : decide (0 ≤ (ji5)) = true := decide_eq_true c6
        clear c6
        obtain ⟨ji7, hji7⟩ : ∃ j_ : Int, (shl .i64 1 (ji5)) = j_ := ⟨_, rfl⟩
        replace H : ((bellbuoyref01_Mod.f a0 (ji7)).bind fun bt139 => (some (IntKind.u64.wrap (bt139.1)))) = some r := by first | (rw [hji7] at H; exact H) | (simp only [hji7] at H ⊢; exact H)
        have hji7_ : (IntKind.i64.wrap (1 * 2 ^ min (ji5).toNat 64)) = ji7 := hji7
        have hji7z : (ji5) ≤ 64 → (IntKind.i64.wrap (1 * 2 ^ (ji5).toNat)) = ji7 := shl_small hji7
        have hji7u : (IntKind.i64.wrap (2 ^ min (ji5).toNat 64)) = ji7 := by have h_ := hji7_; rw [Int.one_mul] at h_; exact h_
        have hji7v : (ji5) ≤ 64 → (IntKind.i64.wrap (2 ^ (ji5).toNat)) = ji7 := fun hle_ => by have h_ := hji7z hle_; rw [Int.one_mul] at h_; exact h_
        have hji7y : (wrap64 (1 * 2 ^ min (ji5).toNat 64)) = ji7 := (i64_w _).symm.trans hji7_
        have hji7x : (ji5) ≤ 64 → (wrap64 (1 * 2 ^ (ji5).toNat)) = ji7 := fun h_ => (i64_w _).symm.trans (hji7z h_)
        replace H := Option.bind_eq_some_iff.mp H
        obtain ⟨⟨t139, t140⟩, A80, H⟩ := H
        replace H : (some (IntKind.u64.wrap (t139))) = some r := H
        have A8 := Aside0.mk A80
        clear A80
        obtain rfl := Option.some.inj H
        go_enter Try.func20, Try.ntmps20
        go_wp2_with (first | ((with_reducible refine gate_callee (f := 25) rfl ?_); refine goesL_ (some 18) rfl rfl Try.func25 (by kernel_rfl) rfl #[.int .i64 a0, .int .i64 ji7] rfl (by (try simp only [List.map_toArray, List.map_cons, List.map_nil]); first | done | (simp only [hji7]; rfl) | rfl | (simp only [List.length_drop, List.length_take]; rfl)) ?_; (with_reducible refine (bellbuoyref01_Mod.calls a0 ji7 t139 t140 _ A8.out).mono ?_); rintro e w9 ⟨rfl, hb⟩; refine ⟨_, rfl, ?_⟩; have n0_ := Aside0.mk (below_step (by repeat (first | (with_reducible first | exact HB.out | apply below_alloc | apply pw_below_drewN | apply below_drew1) | exact HB.out)) hb); clear HB; have HB := n0_; clear n0_; (try clear hb); (try clear hb2); (try clear hk); (try clear hi)))
        go_ret
        exact ⟨by first | rfl | (simp [errW_none, errW_some] <;> rfl) | (simp only [← hji5, ← hji7]; first | rfl | (simp [errW_none, errW_some] <;> rfl)) | (simp [*, errW_none, errW_some] <;> rfl), by repeat (first | (with_reducible first | exact HB.out | apply below_alloc | apply pw_below_drewN | apply below_drew1) | exact HB.out)⟩
      · rw [if_neg c6] at H
        exact absurd H (by simp)

/-! ### bellbuoyref16_Expand: function 18 -/
def bellbuoyref16_Expand.j0 : Nat → Int → Int → Int → Bool → Option (Int × Bool)
  | 0, _, _, _, _ => none
  | k + 1, x0, x1, x2, x25 => if x25 = true then (some (0, false)) else ((bellbuoyref16_Stamp.f x0 x2).bind fun t141 => (if (wrap64 ((wrap64 (t141)) - (wrap64 (x1)))) < 0 then (if 0 ≤ (IntKind.u64.wrap (x2)) then (if (wrap64 ((wrap64 ((wrap64 (t141)) - (wrap64 (x1)))) + (shl .i64 1 (IntKind.u64.wrap (x2))))) > x0 then (some (0, false)) else (some (wrap64 (x0 - (wrap64 ((wrap64 ((wrap64 (t141)) - (wrap64 (x1)))) + (shl .i64 1 (IntKind.u64.wrap (x2)))))), true))) else (none)) else (if (wrap64 ((wrap64 (t141)) - (wrap64 (x1)))) > x0 then (some (0, false)) else (some (wrap64 (x0 - (wrap64 ((wrap64 (t141)) - (wrap64 (x1))))), true)))))
def bellbuoyref16_Expand.f (k : Nat) (a0 : Int) (a1 : Int) (a2 : Int) : Option (Int × Bool) := if a2 < 1 then (bellbuoyref16_Expand.j0 k a0 a1 a2 true) else (if a2 > 62 then (bellbuoyref16_Expand.j0 k a0 a1 a2 true) else (if 0 ≤ (IntKind.u64.wrap (a2)) then (if a1 ≥ (shl .u64 1 (IntKind.u64.wrap (a2))) then (bellbuoyref16_Expand.j0 k a0 a1 a2 true) else (bellbuoyref16_Expand.j0 k a0 a1 a2 (decide (a0 < 0)))) else (none)))
theorem bellbuoyref16_Expand.mono_l : ∀ k, (∀ y0 y1 y2 y3, LeO (bellbuoyref16_Expand.j0 k y0 y1 y2 y3) (bellbuoyref16_Expand.j0 (k + 1) y0 y1 y2 y3))
  | 0 => fun _ _ _ _ r h => by simp [bellbuoyref16_Expand.j0] at h
  | k + 1 => by
    have ih0 := bellbuoyref16_Expand.mono_l k
    · intro y0 y1 y2 y3
      unfold bellbuoyref16_Expand.j0
      repeat' first
      | (with_reducible exact ih0 _ _ _ _)
      | (with_reducible exact LeO.refl _)
      | (with_reducible exact LeO.none _)
      | (with_reducible refine LeO.ite ?_ ?_)
      | (with_reducible refine LeO.bind ?_ (fun _ => ?_))
      | exact ih0 _ _ _ _
      | exact LeO.none _
      | refine LeO.ite ?_ ?_
      | refine LeO.bind ?_ (fun _ => ?_)
theorem bellbuoyref16_Expand.mono : ∀ a0 a1 a2 k, LeO (bellbuoyref16_Expand.f k a0 a1 a2) (bellbuoyref16_Expand.f (k + 1) a0 a1 a2) := by
  intro a0 a1 a2 k
  have ih0 := bellbuoyref16_Expand.mono_l k
  unfold bellbuoyref16_Expand.f
  repeat' first
      | (with_reducible exact ih0 _ _ _ _)
      | (with_reducible exact LeO.refl _)
      | (with_reducible exact LeO.none _)
      | (with_reducible refine LeO.ite ?_ ?_)
      | (with_reducible refine LeO.bind ?_ (fun _ => ?_))
      | exact ih0 _ _ _ _
      | exact LeO.none _
      | refine LeO.ite ?_ ?_
      | refine LeO.bind ?_ (fun _ => ?_)
set_option maxHeartbeats 8000000 in
set_option maxRecDepth 100000 in
theorem bellbuoyref16_Expand.calls (k : Nat) (a0 : Int) (a1 : Int) (a2 : Int) (r1 : Int) (r2 : Bool) (w : World) (h : bellbuoyref16_Expand.f k a0 a1 a2 = some (r1, r2)) :
    Calls Try.prog 18 #[.int .i64 a0, .int .u64 a1, .int .i64 a2] w fun e w' => e = .returned (.tuple #[.int .i64 r1, .bool r2]) ∧ Below w.heap.size w w' := by
  have HB := Aside0.mk (Below.refl w.heap.size w)
  have H : (if a2 < 1 then (bellbuoyref16_Expand.j0 k a0 a1 a2 true) else (if a2 > 62 then (bellbuoyref16_Expand.j0 k a0 a1 a2 true) else (if 0 ≤ (IntKind.u64.wrap (a2)) then (if a1 ≥ (shl .u64 1 (IntKind.u64.wrap (a2))) then (bellbuoyref16_Expand.j0 k a0 a1 a2 true) else (bellbuoyref16_Expand.j0 k a0 a1 a2 (decide (a0 < 0)))) else (none)))) = some (r1, r2) := h
  clear h
  have HC4 := Aside0.mk H
  clear H
  go_enter Try.func18, Try.ntmps18
  go_upto_region 1 with (fail)
  go_cut [25] (fun v25 wc => ∃ (kq : Nat) (x25_3 : Bool), v25 = .bool x25_3 ∧ Aside0 (bellbuoyref16_Expand.j0 kq a0 a1 a2 x25_3 = some (r1, r2)) ∧ Aside0 (kq ≤ k) ∧ Aside0 (Below w.heap.size w wc))
  case first =>
    have H := HC4.out
    clear HC4
    by_cases c5 : a2 < 1
    · rw [if_pos c5] at H
      have c5b0 : decide (a2 < 1) = true := decide_eq_true c5
      clear c5
      (first | rw [c5b0] | (simp only [i64_w, i32_w]; rw [c5b0]) | skip)
      have H' := Aside0.mk H
      clear H
      go_wp2
      go_meet
      case rel => exact ⟨_, (true), (by first | rfl | (simp; done) | (simp [*]; done)), H', ⟨by first | omega | exact Nat.le_refl _⟩, ⟨by repeat (first | (with_reducible first | exact HB.out | apply below_alloc | apply pw_below_drewN | apply below_drew1) | exact HB.out)⟩⟩
    · rw [if_neg c5] at H
      have c5b0 : decide (a2 < 1) = false := decide_eq_false c5
      clear c5
      (first | rw [c5b0] | (simp only [i64_w, i32_w]; rw [c5b0]) | skip)
      by_cases c6 : a2 > 62
      · rw [if_pos c6] at H
        have c6b0 : decide (62 < a2) = true := decide_eq_true c6
        clear c6
        have H' := Aside0.mk H
        clear H
        go_wp2
        go_meet
        case rel => exact ⟨_, (true), (by first | rfl | (simp; done) | (simp [*]; done)), H', ⟨by first | omega | exact Nat.le_refl _⟩, ⟨by repeat (first | (with_reducible first | exact HB.out | apply below_alloc | apply pw_below_drewN | apply below_drew1) | exact HB.out)⟩⟩
      · rw [if_neg c6] at H
        have c6b0 : decide (62 < a2) = false := decide_eq_false c6
        clear c6
        obtain ⟨ji7, hji7⟩ : ∃ j_ : Int, (IntKind.u64.wrap (a2)) = j_ := ⟨_, rfl⟩
        replace H : (if 0 ≤ (ji7) then (if a1 ≥ (shl .u64 1 (ji7)) then (bellbuoyref16_Expand.j0 k a0 a1 a2 true) else (bellbuoyref16_Expand.j0 k a0 a1 a2 (decide (a0 < 0)))) else (none)) = some (r1, r2) := by first | (rw [hji7] at H; exact H) | (simp only [hji7] at H ⊢; exact H)
        by_cases c8 : 0 ≤ (ji7)
        · rw [if_pos c8] at H
          have c8b0 := eq_true c8
          have c8b1 : decide (0 ≤ (ji7)) = true := decide_eq_true c8
          clear c8
          obtain ⟨ji9, hji9⟩ : ∃ j_ : Int, (shl .u64 1 (ji7)) = j_ := ⟨_, rfl⟩
          replace H : (if a1 ≥ (ji9) then (bellbuoyref16_Expand.j0 k a0 a1 a2 true) else (bellbuoyref16_Expand.j0 k a0 a1 a2 (decide (a0 < 0)))) = some (r1, r2) := by first | (rw [hji9] at H; exact H) | (simp only [hji9] at H ⊢; exact H)
          have hji9_ : (IntKind.u64.wrap (1 * 2 ^ min (ji7).toNat 64)) = ji9 := hji9
          have hji9z : (ji7) ≤ 64 → (IntKind.u64.wrap (1 * 2 ^ (ji7).toNat)) = ji9 := shl_small hji9
          have hji9u : (IntKind.u64.wrap (2 ^ min (ji7).toNat 64)) = ji9 := by have h_ := hji9_; rw [Int.one_mul] at h_; exact h_
          have hji9v : (ji7) ≤ 64 → (IntKind.u64.wrap (2 ^ (ji7).toNat)) = ji9 := fun hle_ => by have h_ := hji9z hle_; rw [Int.one_mul] at h_; exact h_
          by_cases c10 : a1 ≥ (ji9)
          · rw [if_pos c10] at H
            have c10b0 : decide ((ji9) ≤ a1) = true := decide_eq_true c10
            clear c10
            have H' := Aside0.mk H
            clear H
            go_wp2
            go_meet
            case rel => exact ⟨_, (true), (by first | rfl | (simp; done) | (simp [*]; done)), H', ⟨by first | omega | exact Nat.le_refl _⟩, ⟨by repeat (first | (with_reducible first | exact HB.out | apply below_alloc | apply pw_below_drewN | apply below_drew1) | exact HB.out)⟩⟩
          · rw [if_neg c10] at H
            have c10b0 : decide ((ji9) ≤ a1) = false := decide_eq_false c10
            clear c10
            have H' := Aside0.mk H
            clear H
            go_wp2
            go_meet
            case rel => exact ⟨_, (decide (a0 < 0)), (by first | rfl | (simp; done) | (simp [*]; done)), H', ⟨by first | omega | exact Nat.le_refl _⟩, ⟨by repeat (first | (with_reducible first | exact HB.out | apply below_alloc | apply pw_below_drewN | apply below_drew1) | exact HB.out)⟩⟩
        · rw [if_neg c8] at H
          exact absurd H (by simp)
  case rest =>
    clear HC4
    try clear c1
    try clear p2
    try clear c5
    try clear c5b0
    try clear c6
    try clear c6b0
    try clear c8
    try clear c8b0
    try clear c8b1
    try clear c10
    try clear c10b0
    obtain ⟨kq, x25_3, rfl, HA, HJ3, HB⟩ := hcut
    cases kq with
    | zero => exact absurd HA.out (by simp [bellbuoyref16_Expand.j0])
    | succ kj3 =>
      have H := HA.out
      clear HA
      simp only [bellbuoyref16_Expand.j0] at H
      by_cases c11 : x25_3 = true
      · subst c11
        have H1 : (some (0, false)) = some (r1, r2) := by rw [if_pos rfl] at H; exact H
        clear H
        have H := H1
        clear H1
        simp only [Option.some.injEq, Prod.mk.injEq] at H
        obtain ⟨rfl, rfl⟩ := H
        go_wp2
        go_ret2
        exact ⟨by first | rfl | (simp [errW_none, errW_some] <;> rfl) | (simp [*, errW_none, errW_some] <;> rfl), by repeat (first | (with_reducible first | exact HB.out | apply below_alloc | apply pw_below_drewN | apply below_drew1) | exact HB.out)⟩
      · replace c11 := Bool.eq_false_iff.mpr c11
        subst c11
        have H1 : ((bellbuoyref16_Stamp.f a0 a2).bind fun t141 => (if (wrap64 ((wrap64 (t141)) - (wrap64 (a1)))) < 0 then (if 0 ≤ (IntKind.u64.wrap (a2)) then (if (wrap64 ((wrap64 ((wrap64 (t141)) - (wrap64 (a1)))) + (shl .i64 1 (IntKind.u64.wrap (a2))))) > a0 then (some (0, false)) else (some (wrap64 (a0 - (wrap64 ((wrap64 ((wrap64 (t141)) - (wrap64 (a1)))) + (shl .i64 1 (IntKind.u64.wrap (a2)))))), true))) else (none)) else (if (wrap64 ((wrap64 (t141)) - (wrap64 (a1)))) > a0 then (some (0, false)) else (some (wrap64 (a0 - (wrap64 ((wrap64 (t141)) - (wrap64 (a1))))), true))))) = some (r1, r2) := by rw [if_neg (show ¬ (false = true) by decide)] at H; exact H
        clear H
        have H := H1
        clear H1
        replace H := Option.bind_eq_some_iff.mp H
        obtain ⟨t141, A120, H⟩ := H
        replace H : (if (wrap64 ((wrap64 (t141)) - (wrap64 (a1)))) < 0 then (if 0 ≤ (IntKind.u64.wrap (a2)) then (if (wrap64 ((wrap64 ((wrap64 (t141)) - (wrap64 (a1)))) + (shl .i64 1 (IntKind.u64.wrap (a2))))) > a0 then (some (0, false)) else (some (wrap64 (a0 - (wrap64 ((wrap64 ((wrap64 (t141)) - (wrap64 (a1)))) + (shl .i64 1 (IntKind.u64.wrap (a2)))))), true))) else (none)) else (if (wrap64 ((wrap64 (t141)) - (wrap64 (a1)))) > a0 then (some (0, false)) else (some (wrap64 (a0 - (wrap64 ((wrap64 (t141)) - (wrap64 (a1))))), true)))) = some (r1, r2) := H
        have A12 := Aside0.mk A120
        clear A120
        by_cases c13 : (wrap64 ((wrap64 (t141)) - (wrap64 (a1)))) < 0
        · rw [if_pos c13] at H
          have c13b0 : decide ((wrap64 ((wrap64 (t141)) - (wrap64 (a1)))) < 0) = true := decide_eq_true c13
          clear c13
          obtain ⟨ji14, hji14⟩ : ∃ j_ : Int, (IntKind.u64.wrap (a2)) = j_ := ⟨_, rfl⟩
          replace H : (if 0 ≤ (ji14) then (if (wrap64 ((wrap64 ((wrap64 (t141)) - (wrap64 (a1)))) + (shl .i64 1 (ji14)))) > a0 then (some (0, false)) else (some (wrap64 (a0 - (wrap64 ((wrap64 ((wrap64 (t141)) - (wrap64 (a1)))) + (shl .i64 1 (ji14))))), true))) else (none)) = some (r1, r2) := by first | (rw [hji14] at H; exact H) | (simp only [hji14] at H ⊢; exact H)
          (try rw [hji14] at A12)
          by_cases c15 : 0 ≤ (ji14)
          · rw [if_pos c15] at H
            have c15b0 := eq_true c15
            have c15b1 : decide (0 ≤ (ji14)) = true := decide_eq_true c15
            clear c15
            obtain ⟨ji16, hji16⟩ : ∃ j_ : Int, (shl .i64 1 (ji14)) = j_ := ⟨_, rfl⟩
            replace H : (if (wrap64 ((wrap64 ((wrap64 (t141)) - (wrap64 (a1)))) + (ji16))) > a0 then (some (0, false)) else (some (wrap64 (a0 - (wrap64 ((wrap64 ((wrap64 (t141)) - (wrap64 (a1)))) + (ji16)))), true))) = some (r1, r2) := by first | (rw [hji16] at H; exact H) | (simp only [hji16] at H ⊢; exact H)
            (try rw [hji16] at A12)
            have hji16_ : (IntKind.i64.wrap (1 * 2 ^ min (ji14).toNat 64)) = ji16 := hji16
            have hji16z : (ji14) ≤ 64 → (IntKind.i64.wrap (1 * 2 ^ (ji14).toNat)) = ji16 := shl_small hji16
            have hji16u : (IntKind.i64.wrap (2 ^ min (ji14).toNat 64)) = ji16 := by have h_ := hji16_; rw [Int.one_mul] at h_; exact h_
            have hji16v : (ji14) ≤ 64 → (IntKind.i64.wrap (2 ^ (ji14).toNat)) = ji16 := fun hle_ => by have h_ := hji16z hle_; rw [Int.one_mul] at h_; exact h_
            have hji16y : (wrap64 (1 * 2 ^ min (ji14).toNat 64)) = ji16 := (i64_w _).symm.trans hji16_
            have hji16x : (ji14) ≤ 64 → (wrap64 (1 * 2 ^ (ji14).toNat)) = ji16 := fun h_ => (i64_w _).symm.trans (hji16z h_)
            by_cases c17 : (wrap64 ((wrap64 ((wrap64 (t141)) - (wrap64 (a1)))) + (ji16))) > a0
            · rw [if_pos c17] at H
              have c17b0 : decide (a0 < (wrap64 ((wrap64 ((wrap64 (t141)) - (wrap64 (a1)))) + (ji16)))) = true := decide_eq_true c17
              clear c17
              simp only [Option.some.injEq, Prod.mk.injEq] at H
              obtain ⟨rfl, rfl⟩ := H
              go_wp2_with (first | ((with_reducible refine gate_callee (f := 20) rfl ?_); refine goesL_ (some 28) rfl rfl Try.func20 (by kernel_rfl) rfl #[.int .i64 a0, .int .i64 a2] rfl (by (try simp only [List.map_toArray, List.map_cons, List.map_nil]); first | done | rfl | (simp only [List.length_drop, List.length_take]; rfl)) ?_; (with_reducible refine (bellbuoyref16_Stamp.calls a0 a2 t141 _ A12.out).mono ?_); rintro e w18 ⟨rfl, hb⟩; refine ⟨_, rfl, ?_⟩; have n0_ := Aside0.mk (below_step (by repeat (first | (with_reducible first | exact HB.out | apply below_alloc | apply pw_below_drewN | apply below_drew1) | exact HB.out)) hb); clear HB; have HB := n0_; clear n0_; (try clear hb); (try clear hb2); (try clear hk); (try clear hi)))
              go_ret2
              exact ⟨by first | rfl | (simp [errW_none, errW_some] <;> rfl) | (simp only [← hji14, ← hji16]; first | rfl | (simp [errW_none, errW_some] <;> rfl)) | (simp [*, errW_none, errW_some] <;> rfl), by repeat (first | (with_reducible first | exact HB.out | apply below_alloc | apply pw_below_drewN | apply below_drew1) | exact HB.out)⟩
            · rw [if_neg c17] at H
              have c17b0 : decide (a0 < (wrap64 ((wrap64 ((wrap64 (t141)) - (wrap64 (a1)))) + (ji16)))) = false := decide_eq_false c17
              clear c17
              simp only [Option.some.injEq, Prod.mk.injEq] at H
              obtain ⟨rfl, rfl⟩ := H
              go_wp2_with (first | ((with_reducible refine gate_callee (f := 20) rfl ?_); refine goesL_ (some 28) rfl rfl Try.func20 (by kernel_rfl) rfl #[.int .i64 a0, .int .i64 a2] rfl (by (try simp only [List.map_toArray, List.map_cons, List.map_nil]); first | done | rfl | (simp only [List.length_drop, List.length_take]; rfl)) ?_; (with_reducible refine (bellbuoyref16_Stamp.calls a0 a2 t141 _ A12.out).mono ?_); rintro e w19 ⟨rfl, hb⟩; refine ⟨_, rfl, ?_⟩; have n0_ := Aside0.mk (below_step (by repeat (first | (with_reducible first | exact HB.out | apply below_alloc | apply pw_below_drewN | apply below_drew1) | exact HB.out)) hb); clear HB; have HB := n0_; clear n0_; (try clear hb); (try clear hb2); (try clear hk); (try clear hi)))
              go_ret2
              exact ⟨by first | rfl | (simp [errW_none, errW_some] <;> rfl) | (simp only [← hji14, ← hji16]; first | rfl | (simp [errW_none, errW_some] <;> rfl)) | (simp [*, errW_none, errW_some] <;> rfl), by repeat (first | (with_reducible first | exact HB.out | apply below_alloc | apply pw_below_drewN | apply below_drew1) | exact HB.out)⟩
          · rw [if_neg c15] at H
            exact absurd H (by simp)
        · rw [if_neg c13] at H
          have c13b0 : decide ((wrap64 ((wrap64 (t141)) - (wrap64 (a1)))) < 0) = false := decide_eq_false c13
          clear c13
          by_cases c20 : (wrap64 ((wrap64 (t141)) - (wrap64 (a1)))) > a0
          · rw [if_pos c20] at H
            have c20b0 : decide (a0 < (wrap64 ((wrap64 (t141)) - (wrap64 (a1))))) = true := decide_eq_true c20
            clear c20
            simp only [Option.some.injEq, Prod.mk.injEq] at H
            obtain ⟨rfl, rfl⟩ := H
            go_wp2_with (first | ((with_reducible refine gate_callee (f := 20) rfl ?_); refine goesL_ (some 28) rfl rfl Try.func20 (by kernel_rfl) rfl #[.int .i64 a0, .int .i64 a2] rfl (by (try simp only [List.map_toArray, List.map_cons, List.map_nil]); first | done | rfl | (simp only [List.length_drop, List.length_take]; rfl)) ?_; (with_reducible refine (bellbuoyref16_Stamp.calls a0 a2 t141 _ A12.out).mono ?_); rintro e w21 ⟨rfl, hb⟩; refine ⟨_, rfl, ?_⟩; have n0_ := Aside0.mk (below_step (by repeat (first | (with_reducible first | exact HB.out | apply below_alloc | apply pw_below_drewN | apply below_drew1) | exact HB.out)) hb); clear HB; have HB := n0_; clear n0_; (try clear hb); (try clear hb2); (try clear hk); (try clear hi)))
            go_ret2
            exact ⟨by first | rfl | (simp [errW_none, errW_some] <;> rfl) | (simp [*, errW_none, errW_some] <;> rfl), by repeat (first | (with_reducible first | exact HB.out | apply below_alloc | apply pw_below_drewN | apply below_drew1) | exact HB.out)⟩
          · rw [if_neg c20] at H
            have c20b0 : decide (a0 < (wrap64 ((wrap64 (t141)) - (wrap64 (a1))))) = false := decide_eq_false c20
            clear c20
            simp only [Option.some.injEq, Prod.mk.injEq] at H
            obtain ⟨rfl, rfl⟩ := H
            go_wp2_with (first | ((with_reducible refine gate_callee (f := 20) rfl ?_); refine goesL_ (some 28) rfl rfl Try.func20 (by kernel_rfl) rfl #[.int .i64 a0, .int .i64 a2] rfl (by (try simp only [List.map_toArray, List.map_cons, List.map_nil]); first | done | rfl | (simp only [List.length_drop, List.length_take]; rfl)) ?_; (with_reducible refine (bellbuoyref16_Stamp.calls a0 a2 t141 _ A12.out).mono ?_); rintro e w22 ⟨rfl, hb⟩; refine ⟨_, rfl, ?_⟩; have n0_ := Aside0.mk (below_step (by repeat (first | (with_reducible first | exact HB.out | apply below_alloc | apply pw_below_drewN | apply below_drew1) | exact HB.out)) hb); clear HB; have HB := n0_; clear n0_; (try clear hb); (try clear hb2); (try clear hk); (try clear hi)))
            go_ret2
            exact ⟨by first | rfl | (simp [errW_none, errW_some] <;> rfl) | (simp [*, errW_none, errW_some] <;> rfl), by repeat (first | (with_reducible first | exact HB.out | apply below_alloc | apply pw_below_drewN | apply below_drew1) | exact HB.out)⟩

end Go.Proofs.Ytdlpmbjnplnjnaa.P
