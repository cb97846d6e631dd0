/- Between two counts a clock grows by the rate: the walk. No condition but that the numbers are within 64 bits. -/
import Derived.Test.YtamdilpcjcmomaaClockLive
namespace Go.Proofs.Ytamdilpcjcmomaa.P
open Go.RowKit Go.Proofs.YtamdilpcjcmomaaW.PrintWords Go.Proofs.YtamdilpcjcmomaaW.PrintLast Go.Proofs.YtamdilpcjcmomaaW.PrintMore
set_option linter.unusedVariables false
set_option linter.unusedSimpArgs false
theorem mul_bounds (a r : Int) (a0 : -1099511627776 ≤ a) (a1 : a ≤ 1099511627776) (r0 : 0 ≤ r) (r1 : r ≤ 2097152) : -2305843009213693952 ≤ a * r ∧ a * r ≤ 2305843009213693952 := by
  have h1 : a * r ≤ 1099511627776 * r := Int.mul_le_mul_of_nonneg_right a1 r0
  have h2 : (-1099511627776) * r ≤ a * r := Int.mul_le_mul_of_nonneg_right a0 r0
  omega
theorem look_zero (a r : Int) (a0 : -1099511627776 ≤ a) (a1 : a ≤ 1099511627776) (r0 : 0 ≤ r) (r1 : r ≤ 2097152) : lookV 0 0 r a = (a * r / 1048576, true) := by
  have h := mul_bounds a r a0 a1 r0 r1
  unfold lookV In64 wi
  rw [Int.sub_zero, Int.add_zero]
  generalize a * r = m at *
  rw [if_pos ⟨by omega, by omega, decide_eq_true (by omega)⟩]
set_option maxHeartbeats 4000000 in
set_option maxRecDepth 100000 in
theorem Slopes_core (rate a0 b0 m p q r a b x y s d z u : Int) (sw : Bool) (w : World) (e1 : Int.tmod rate 4097 = m) (e2 : wrap64 (1048576 + m) = r) (e3 : Int.tmod a0 1099511627776 = p) (e4 : Int.tmod b0 1099511627776 = q)
    (e5 : decide (q < p) = sw) (e6 : a = if sw = true then q else p) (e7 : b = if sw = true then p else q) (ht : tuneV 0 0 1048576 0 r = (0, 0, 0, r)) (hr : In64 r) (ha : In64 a) (hb : In64 b) (hx : lookV 0 0 r a = (x, true)) (hy : lookV 0 0 r b = (y, true))
    (e8 : wrap64 (b - a) = d) (hs : bellbuoyref01_Scale.f d r 1048576 = some (s, true)) (e9 : wrap64 (y - x) = z) (e10 : wrap64 (s + 1) = u) (e11 : decide (s ≤ z) = true) (e12 : decide (z ≤ u) = true) :
    Calls Try.prog 6 #[.int .i64 rate, .int .i64 a0, .int .i64 b0] w fun e w' => e = .returned (.bool true) ∧ Below w.heap.size w w' := by
  have HT := Aside0.mk ht
  have HX := Aside0.mk hx
  have HY := Aside0.mk hy
  have HS := Aside0.mk hs
  have HI := Aside0.mk (And.intro hr (And.intro ha hb))
  have i0 : Aside0 (In64 0) := ⟨by decide⟩
  have i1 : Aside0 (In64 1048576) := ⟨by decide⟩
  clear ht hx hy hs hr ha hb
  cases sw
  all_goals
    simp only [Bool.false_eq_true, if_false, if_true] at e6 e7
    subst e6 e7
    go_enter Try.func6, Try.ntmps6
    go_wp2_with fail
    refine (New_calls _).mono ?_
    rintro e w1 ⟨g, hg, rfl, h1, hb1⟩
    have HG := Aside0.mk hg
    have H1 := Aside0.mk h1
    have B1 := Aside0.mk hb1
    clear hg h1 hb1
    go_wp2_with fail
    refine (Tune_calls g 0 0 1048576 0 0 r 0 0 0 r _ H1.out i0.out i0.out i1.out i0.out HT.out).mono ?_
    rintro e w2 ⟨rfl, h2, _, hb⟩
    have H2 := Aside0.mk h2
    have B2 := Aside0.mk (B1.out.trans (hb _ HG.out B1.out.size))
    clear h2 hb B1 H1
    go_wp2_with fail
    refine (Look_calls g 0 0 r 0 _ x true _ H2.out i0.out i0.out HI.out.1 HI.out.2.1 HX.out).mono ?_
    rintro e w3 ⟨rfl, hb⟩
    have H3 := Aside0.mk (H2.out.below hb)
    have B3 := Aside0.mk (below_step B2.out hb)
    clear hb B2 H2
    go_wp2_with fail
    refine (Look_calls g 0 0 r 0 _ y true _ H3.out i0.out i0.out HI.out.1 HI.out.2.2 HY.out).mono ?_
    rintro e w4 ⟨rfl, hb⟩
    have H4 := Aside0.mk (H3.out.below hb)
    have B4 := Aside0.mk (below_step B3.out hb)
    clear hb B3 H3
    go_wp2_with fail
    refine (bellbuoyref01_Scale.calls d r 1048576 s true _ HS.out).mono ?_
    rintro e w5 ⟨rfl, hb⟩
    have H5 := Aside0.mk (H4.out.below hb)
    have B5 := Aside0.mk (below_step B4.out hb)
    clear hb B4 H4
    go_wp2_with fail
    refine (live_walk _).mono ?_
    rintro e w6 ⟨rfl, hb⟩
    have H6 := Aside0.mk (H5.out.below hb)
    have B6 := Aside0.mk (below_step B5.out hb)
    clear hb B5 H5
    go_wp2_with fail
    refine (Rate_calls g 0 0 r 0 _ H6.out).mono ?_
    rintro e w7 ⟨rfl, rfl⟩
    go_wp2_with fail
    go_ret
    exact ⟨by simp, B6.out⟩
theorem ClockSlopes_walk (a0 a1 a2 : Int) (w : World) (w0 : (Lit.int .i64 a0).wf = true) (w1 : (Lit.int .i64 a1).wf = true) (w2 : (Lit.int .i64 a2).wf = true) :
    Calls Try.prog 6 #[.int .i64 a0, .int .i64 a1, .int .i64 a2] w fun e w' => e = .returned (.bool true) ∧ Below w.heap.size w w' := by
  have tm : ∀ (x T : Int), 0 < T → -T < Int.tmod x T ∧ Int.tmod x T < T := fun x T hT => by
    have h1 := Int.tmod_lt_of_pos x hT
    have h2 := Int.lt_tmod_of_pos x hT
    exact ⟨h2, h1⟩
  have m1 := tm a0 4097 (by omega)
  have p1 := tm a1 1099511627776 (by omega)
  have q1 := tm a2 1099511627776 (by omega)
  generalize hm : Int.tmod a0 4097 = m at *
  generalize hp : Int.tmod a1 1099511627776 = p at *
  generalize hq : Int.tmod a2 1099511627776 = q at *
  have e2 : wrap64 (1048576 + m) = 1048576 + m := wr64 _ (by omega) (by omega)
  generalize hr : 1048576 + m = r at e2
  have ht : tuneV 0 0 1048576 0 r = (0, 0, 0, r) := by
    unfold tuneV onV
    rw [if_pos (by omega), show lookV 0 0 1048576 0 = (0, true) by decide +kernel]
    rfl
  have main : ∀ a b : Int, -1099511627776 ≤ a → a ≤ 1099511627776 → -1099511627776 ≤ b → b ≤ 1099511627776 → a ≤ b → ∃ x y s d z u : Int, lookV 0 0 r a = (x, true) ∧ lookV 0 0 r b = (y, true) ∧ wrap64 (b - a) = d ∧ bellbuoyref01_Scale.f d r 1048576 = some (s, true) ∧ wrap64 (y - x) = z ∧ wrap64 (s + 1) = u ∧ decide (s ≤ z) = true ∧ decide (z ≤ u) = true := fun a b ha0 ha1 hb0 hb1 hab => by
    have xa := mul_bounds a r ha0 ha1 (by omega) (by omega)
    have xb := mul_bounds b r hb0 hb1 (by omega) (by omega)
    have hs := rScale_eq (b - a) r (by unfold In64; omega) (by unfold In64; omega)
    rw [Int.sub_mul] at hs
    have l1 := look_zero a r ha0 ha1 (by omega) (by omega)
    have l2 := look_zero b r hb0 hb1 (by omega) (by omega)
    generalize a * r = A at *
    generalize b * r = B at *
    rw [fit64_in (by omega) (by omega)] at hs
    exact ⟨_, _, _, _, _, _, l1, l2, wr64 _ (by omega) (by omega), hs, wr64 _ (by omega) (by omega), wr64 _ (by omega) (by omega), decide_eq_true (by omega), decide_eq_true (by omega)⟩
  by_cases c : q < p
  · obtain ⟨x, y, s, d, z, u, h1, h2, h3, h4, h5, h6, h7, h8⟩ := main q p (by omega) (by omega) (by omega) (by omega) (by omega)
    exact Slopes_core a0 a1 a2 m p q r q p x y s d z u true w hm (by rw [hr]; exact e2) hp hq (decide_eq_true c) rfl rfl ht (by unfold In64; omega) (by unfold In64; omega) (by unfold In64; omega) h1 h2 h3 h4 h5 h6 h7 h8
  · obtain ⟨x, y, s, d, z, u, h1, h2, h3, h4, h5, h6, h7, h8⟩ := main p q (by omega) (by omega) (by omega) (by omega) (by omega)
    exact Slopes_core a0 a1 a2 m p q r p q x y s d z u false w hm (by rw [hr]; exact e2) hp hq (decide_eq_false c) rfl rfl ht (by unfold In64; omega) (by unfold In64; omega) (by unfold In64; omega) h1 h2 h3 h4 h5 h6 h7 h8
end Go.Proofs.Ytamdilpcjcmomaa.P
