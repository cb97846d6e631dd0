/- The reference's clock, walked by hand. Conditions: the numbers are within 64 bits. -/
import Derived.Test.YtjnllejfgljkdaaClockLib3
namespace Go.Proofs.Ytjnllejfgljkdaa.P
open Go.RowKit Go.Proofs.YtjnllejfgljkdaaW.PrintWords Go.Proofs.YtjnllejfgljkdaaW.PrintLast Go.Proofs.YtjnllejfgljkdaaW.PrintMore
set_option linter.unusedVariables false
set_option linter.unusedSimpArgs false
set_option maxHeartbeats 4000000 in
set_option maxRecDepth 100000 in
theorem RefLook_calls (g : Nat) (r b k l c t : Int) (ok : Bool) (w : World) (h : At4 51 w g r b k l) (hr : In64 r) (hb : In64 b) (hk : In64 k) (hc : In64 c) (hl : lookV r b k c = (t, ok)) :
    Calls Try.prog 47 #[.pointer (some ⟨g, 0, none⟩), .int .i64 c] w fun e w' => e = .returned (.tuple #[.int .i64 t, .bool ok]) ∧ Below w.heap.size w w' := by
  have HI := Aside0.mk h
  obtain ⟨c0, c1, c2, c3, f0, f1, f2, f3⟩ := cells4k h
  have hu35 := Try.underlying51
  have e1 := refSub_eq c r hc.1 hc.2 hr.1 hr.2
  unfold lookV at hl
  by_cases d1 : -9223372036854775808 ≤ c - r ∧ c - r ≤ 9223372036854775807
  case neg =>
    rw [fit64_out d1] at e1
    rw [if_neg (fun x => d1 x.1)] at hl
    simp only [Prod.mk.injEq] at hl
    obtain ⟨rfl, rfl⟩ := hl
    have H1 := Aside0.mk e1
    clear h hr hb hk hc e1 d1
    go_enter Try.func47, Try.ntmps47
    go_wp2_with fail
    (with_reducible refine (bellbuoyref01_Sub.calls c r 0 false _ H1.out).mono ?_); rintro e w1 hq; obtain ⟨rfl, ⟨m1, rfl⟩⟩ := hq
    go_wp2_with fail
    go_ret2
    exact ⟨rfl, pw_below_drewN (Below.refl _ _) m1⟩
  have e2 := rScale_eq (c - r) k d1 hk
  rw [fit64_in d1.1 d1.2] at e1
  by_cases d2 : -9223372036854775808 ≤ (c - r) * k / 1048576 ∧ (c - r) * k / 1048576 ≤ 9223372036854775807
  case neg =>
    rw [fit64_out d2] at e2
    rw [if_neg (fun x => d2 x.2.1)] at hl
    simp only [Prod.mk.injEq] at hl
    obtain ⟨rfl, rfl⟩ := hl
    have H1 := Aside0.mk e1
    have H2 := Aside0.mk e2
    clear h hr hb hk hc e1 e2 d1 d2
    go_enter Try.func47, Try.ntmps47
    go_wp2_with fail
    (with_reducible refine (bellbuoyref01_Sub.calls c r (c - r) true _ H1.out).mono ?_); rintro e w1 hq; obtain ⟨rfl, ⟨m1, rfl⟩⟩ := hq
    go_wp2_with fail
    (with_reducible refine (bellbuoyref01_Scale.calls (c - r) k 1048576 0 false _ H2.out).mono ?_); rintro e w2 ⟨rfl, hb2⟩
    go_wp2_with fail
    go_ret2
    exact ⟨rfl, below_step (pw_below_drewN (Below.refl _ _) m1) hb2⟩
  rw [fit64_in d2.1 d2.2] at e2
  have e3 := refAdd_eq b ((c - r) * k / 1048576) hb.1 hb.2 d2.1 d2.2
  rw [Int.add_comm] at hl
  by_cases d3 : -9223372036854775808 ≤ b + (c - r) * k / 1048576 ∧ b + (c - r) * k / 1048576 ≤ 9223372036854775807
  case neg =>
    rw [fit64_out d3] at e3
    rw [if_neg (fun x => by have := wi_bounds x.2.2; omega)] at hl
    simp only [Prod.mk.injEq] at hl
    obtain ⟨rfl, rfl⟩ := hl
    have H1 := Aside0.mk e1
    have H2 := Aside0.mk e2
    have H3 := Aside0.mk e3
    clear h hr hb hk hc e1 e2 d1 d2 d3 e3
    generalize (c - r) * k / 1048576 = s at *
    go_enter Try.func47, Try.ntmps47
    go_wp2_with fail
    (with_reducible refine (bellbuoyref01_Sub.calls c r (c - r) true _ H1.out).mono ?_); rintro e w1 hq; obtain ⟨rfl, ⟨m1, rfl⟩⟩ := hq
    go_wp2_with fail
    (with_reducible refine (bellbuoyref01_Scale.calls (c - r) k 1048576 s true _ H2.out).mono ?_); rintro e w2 ⟨rfl, hb2⟩
    have BB := Aside0.mk (below_step (pw_below_drewN (Below.refl _ _) m1) hb2)
    clear hb2 c0 c1 c2 c3 f0 f1 f2 f3
    obtain ⟨c0, c1, c2, c3, f0, f1, f2, f3⟩ := cells4k (At4.below HI.out BB.out)
    go_wp2_with fail
    (with_reducible refine (bellbuoyref01_Add.calls b s 0 false _ H3.out).mono ?_); rintro e w3 hq; obtain ⟨rfl, ⟨m3, rfl⟩⟩ := hq
    go_wp2_with fail
    go_ret2
    exact ⟨rfl, pw_below_drewN BB.out m3⟩
  rw [fit64_in d3.1 d3.2] at e3
  have e4 := may_eq (b + (c - r) * k / 1048576)
  by_cases d4 : wi (b + (c - r) * k / 1048576) = true
  case' pos =>
    rw [if_pos ⟨d1, d2, d4⟩] at hl
    rw [d4] at e4
  case' neg =>
    rw [if_neg (fun x => d4 x.2.2)] at hl
    rw [Bool.eq_false_iff.2 d4] at e4
  all_goals
    simp only [Prod.mk.injEq] at hl
    obtain ⟨hl1, hl2⟩ := hl
    have H1 := Aside0.mk e1
    have H2 := Aside0.mk e2
    have H3 := Aside0.mk e3
    have H4 := Aside0.mk e4
    clear h hr hb hk hc e1 e2 e3 e4 d1 d2 d3 d4
    generalize (c - r) * k / 1048576 = s at *
    subst hl1 hl2
    go_enter Try.func47, Try.ntmps47
    go_wp2_with fail
    (with_reducible refine (bellbuoyref01_Sub.calls c r (c - r) true _ H1.out).mono ?_); rintro e w1 hq; obtain ⟨rfl, ⟨m1, rfl⟩⟩ := hq
    go_wp2_with fail
    (with_reducible refine (bellbuoyref01_Scale.calls (c - r) k 1048576 s true _ H2.out).mono ?_); rintro e w2 ⟨rfl, hb2⟩
    have BB := Aside0.mk (below_step (pw_below_drewN (Below.refl _ _) m1) hb2)
    clear hb2 c0 c1 c2 c3 f0 f1 f2 f3
    obtain ⟨c0, c1, c2, c3, f0, f1, f2, f3⟩ := cells4k (At4.below HI.out BB.out)
    go_wp2_with fail
    (with_reducible refine (bellbuoyref01_Add.calls b s (b + s) true _ H3.out).mono ?_); rintro e w3 hq; obtain ⟨rfl, ⟨m3, rfl⟩⟩ := hq
    go_wp2_with fail
    (with_reducible refine (bellbuoyref17_may.calls (b + s) _ _ H4.out).mono ?_); rintro e w4 hq; obtain ⟨rfl, hb4⟩ := hq
    go_wp2_with fail
    go_ret2
    exact ⟨rfl, by first | exact below_step (pw_below_drewN BB.out m3) hb4 | (obtain ⟨m4, rfl⟩ := hb4; exact pw_below_drewN (pw_below_drewN BB.out m3) m4)⟩
set_option maxHeartbeats 4000000 in
set_option maxRecDepth 100000 in
theorem RefShift_calls (g : Nat) (r b k l c y e1 r1 b1 k1 : Int) (w : World) (h : At4 51 w g r b k l) (hr : In64 r) (hb : In64 b) (hk : In64 k) (hc : In64 c) (hy : In64 y) (ho : onV r b k c y k = (e1, r1, b1, k1)) :
    Calls Try.prog 44 #[.pointer (some ⟨g, 0, none⟩), .int .i64 c, .int .i64 y] w (P4 51 g r1 b1 k1 l (.int .i64 e1) w) := by
  have HI := Aside0.mk h
  have hu35 := Try.underlying51
  rcases hl : lookV r b k c with ⟨t, ok⟩
  unfold onV at ho
  rw [hl] at ho
  have HL := Aside0.mk (fun w (h : At4 51 w g r b k l) => RefLook_calls g r b k l c t ok w h hr hb hk hc hl)
  cases ok with
  | false =>
    rw [if_neg (by simp)] at ho
    simp only [Prod.mk.injEq] at ho
    obtain ⟨rfl, rfl, rfl, rfl⟩ := ho
    clear h hr hb hk hc hy hl
    go_enter Try.func44, Try.ntmps44
    go_wp2_with fail
    (with_reducible refine (HL.out _ HI.out).mono ?_); rintro e w1 ⟨rfl, hb⟩
    go_wp2_with fail
    go_ret
    exact P4.same HI.out hb
  | true =>
    have hw := wi_bounds (look_ok hl)
    have hy' := hy.def
    have e1 := refAdd_eq t y (by omega) (by omega) hy'.1 hy'.2
    by_cases c1 : -9223372036854775808 ≤ t + y ∧ t + y ≤ 9223372036854775807
    · rw [fit64_in c1.1 c1.2] at e1
      have HA := Aside0.mk e1
      have HW := Aside0.mk (may_eq (t + y))
      cases hv : wi (t + y) with
      | false =>
        rw [hv] at HW
        rw [if_neg (by rw [hv]; simp)] at ho
        simp only [Prod.mk.injEq] at ho
        obtain ⟨rfl, rfl, rfl, rfl⟩ := ho
        clear h hr hb hk hc hy hl hw hy' c1 hv e1
        go_enter Try.func44, Try.ntmps44
        go_wp2_with fail
        (with_reducible refine (HL.out _ HI.out).mono ?_); rintro e w1 ⟨rfl, hb⟩
        go_wp2_with fail
        (with_reducible refine (bellbuoyref01_Add.calls t y (t + y) true _ HA.out).mono ?_); rintro e w2 ⟨rfl, ⟨m2, rfl⟩⟩
        go_wp2_with fail
        (with_reducible refine (bellbuoyref17_may.calls (t + y) false _ HW.out).mono ?_); rintro e w3 ⟨rfl, ⟨m3, rfl⟩⟩
        go_wp2_with fail
        go_ret
        exact P4.same HI.out (pw_below_drewN hb (m2 + m3))
      | true =>
        rw [hv] at HW
        rw [if_pos (by rw [hv]; simp)] at ho
        simp only [Prod.mk.injEq] at ho
        obtain ⟨rfl, rfl, rfl, rfl⟩ := ho
        clear h hr hb hk hc hy hl hw hy' c1 hv e1
        go_enter Try.func44, Try.ntmps44
        go_wp2_with fail
        (with_reducible refine (HL.out _ HI.out).mono ?_); rintro e w1 ⟨rfl, hb⟩
        go_wp2_with fail
        (with_reducible refine (bellbuoyref01_Add.calls t y (t + y) true _ HA.out).mono ?_); rintro e w2 ⟨rfl, ⟨m2, rfl⟩⟩
        go_wp2_with fail
        (with_reducible refine (bellbuoyref17_may.calls (t + y) true _ HW.out).mono ?_); rintro e w3 ⟨rfl, ⟨m3, rfl⟩⟩
        have BB := Aside0.mk (pw_below_drewN hb (m2 + m3))
        have HI3 := Aside0.mk (At4.below HI.out BB.out)
        clear hb
        obtain ⟨c0, c1, c2, c3, f0, f1, f2, f3⟩ := cells4k HI3.out
        go_wp2_with fail
        go_ret
        refine ⟨rfl, blk_put (blk_put HI3.out 0 _ rfl) 1 _ rfl, KeepBut.set_ (KeepBut.set_ (KeepBut.of_below BB.out g none) 0 _) 1 _, fun B h1 h2 => ?_⟩
        exact ((belB BB.out h2).setCell (p := ⟨g, 0, none⟩) h1 _).setCell (p := ⟨g, 1, none⟩) h1 _
    · rw [fit64_out c1] at e1
      have HA := Aside0.mk e1
      rw [if_neg (by rintro ⟨_, x⟩; have := wi_bounds x; simp at this; omega)] at ho
      simp only [Prod.mk.injEq] at ho
      obtain ⟨rfl, rfl, rfl, rfl⟩ := ho
      clear h hr hb hk hc hy hl hw hy' c1 e1
      go_enter Try.func44, Try.ntmps44
      go_wp2_with fail
      (with_reducible refine (HL.out _ HI.out).mono ?_); rintro e w1 ⟨rfl, hb⟩
      go_wp2_with fail
      (with_reducible refine (bellbuoyref01_Add.calls t y 0 false _ HA.out).mono ?_); rintro e w2 ⟨rfl, ⟨m2, rfl⟩⟩
      go_wp2_with fail
      go_ret
      exact P4.same HI.out (pw_below_drewN hb m2)
set_option maxHeartbeats 4000000 in
set_option maxRecDepth 100000 in
theorem RefTune_calls (g : Nat) (r b k l c k' e1 r1 b1 k1 : Int) (w : World) (h : At4 51 w g r b k l) (hr : In64 r) (hb : In64 b) (hk : In64 k) (hc : In64 c) (ho : tuneV r b k c k' = (e1, r1, b1, k1)) :
    Calls Try.prog 51 #[.pointer (some ⟨g, 0, none⟩), .int .i64 c, .int .i64 k'] w (P4 51 g r1 b1 k1 l (.int .i64 e1) w) := by
  have HI := Aside0.mk h
  have hu35 := Try.underlying51
  unfold tuneV at ho
  by_cases d1 : k' < 1044480
  · have q1 : decide (k' < 1044480) = true := decide_eq_true d1
    rw [if_neg (by omega)] at ho
    simp only [Prod.mk.injEq] at ho
    obtain ⟨rfl, rfl, rfl, rfl⟩ := ho
    clear h hr hb hk hc d1
    go_enter Try.func51, Try.ntmps51
    go_wp2_with fail
    go_ret
    exact P4.same HI.out (Below.refl _ _)
  have q1 : decide (k' < 1044480) = false := decide_eq_false d1
  by_cases d2 : 1052672 < k'
  · have q2 : decide (1052672 < k') = true := decide_eq_true d2
    rw [if_neg (by omega)] at ho
    simp only [Prod.mk.injEq] at ho
    obtain ⟨rfl, rfl, rfl, rfl⟩ := ho
    clear h hr hb hk hc d1 d2
    go_enter Try.func51, Try.ntmps51
    go_wp2_with fail
    go_ret
    exact P4.same HI.out (Below.refl _ _)
  have q2 : decide (1052672 < k') = false := decide_eq_false d2
  rw [if_pos (by omega)] at ho
  rcases hl : lookV r b k c with ⟨t, ok⟩
  unfold onV at ho
  rw [hl] at ho
  have HL := Aside0.mk (fun w (h : At4 51 w g r b k l) => RefLook_calls g r b k l c t ok w h hr hb hk hc hl)
  cases ok with
  | false =>
    rw [if_neg (by simp)] at ho
    simp only [Prod.mk.injEq] at ho
    obtain ⟨rfl, rfl, rfl, rfl⟩ := ho
    clear h hr hb hk hc hl d1 d2
    go_enter Try.func51, Try.ntmps51
    go_wp2_with fail
    (with_reducible refine (HL.out _ HI.out).mono ?_); rintro e w1 ⟨rfl, hb⟩
    go_wp2_with fail
    go_ret
    exact P4.same HI.out hb
  | true =>
    rw [if_pos (by simp only [Int.add_zero, true_and]; exact look_ok hl)] at ho
    simp only [Prod.mk.injEq, Int.add_zero] at ho
    obtain ⟨rfl, rfl, rfl, rfl⟩ := ho
    clear h hr hb hk hc hl d1 d2
    go_enter Try.func51, Try.ntmps51
    go_wp2_with fail
    (with_reducible refine (HL.out _ HI.out).mono ?_); rintro e w1 ⟨rfl, hb⟩
    have BB := Aside0.mk hb
    have HI3 := Aside0.mk (At4.below HI.out BB.out)
    clear hb
    obtain ⟨c0, c1, c2, c3, f0, f1, f2, f3⟩ := cells4k HI3.out
    go_wp2_with fail
    go_ret
    refine ⟨rfl, blk_put (blk_put (blk_put HI3.out 0 _ rfl) 1 _ rfl) 2 _ rfl, KeepBut.set_ (KeepBut.set_ (KeepBut.set_ (KeepBut.of_below BB.out g none) 0 _) 1 _) 2 _, fun B h1 h2 => ?_⟩
    exact (((belB BB.out h2).setCell (p := ⟨g, 0, none⟩) h1 _).setCell (p := ⟨g, 1, none⟩) h1 _).setCell (p := ⟨g, 2, none⟩) h1 _
set_option maxHeartbeats 4000000 in
set_option maxRecDepth 100000 in
theorem RefRead_calls (g : Nat) (r b k l c t : Int) (ok : Bool) (w : World) (h : At4 51 w g r b k l) (hr : In64 r) (hb : In64 b) (hk : In64 k) (hc : In64 c) (hl : lookV r b k c = (t, ok)) :
    Calls Try.prog 45 #[.pointer (some ⟨g, 0, none⟩), .int .i64 c] w (P4 51 g r b k (readV l t ok) (.tuple #[.int .i64 (readV l t ok), .bool ok]) w) := by
  have HL := Aside0.mk (fun w (h : At4 51 w g r b k l) => RefLook_calls g r b k l c t ok w h hr hb hk hc hl)
  have HI := Aside0.mk h
  clear h hr hb hk hc hl
  have hu35 := Try.underlying51
  cases ok with
  | false =>
    go_enter Try.func45, Try.ntmps45
    go_wp2_with fail
    (with_reducible refine (HL.out _ HI.out).mono ?_); rintro e w1 ⟨rfl, hb⟩
    obtain ⟨c0, c1, c2, c3, f0, f1, f2, f3⟩ := cells4k (At4.below HI.out hb)
    go_wp2_with fail
    go_ret2
    exact P4.same HI.out hb
  | true =>
    by_cases lt : l < t
    · have e0 : readV l t true = t := by unfold readV; rw [decide_eq_true lt]; rfl
      have e1 : decide (l < t) = true := decide_eq_true lt
      rw [e0]
      clear e0
      go_enter Try.func45, Try.ntmps45
      go_wp2_with fail
      (with_reducible refine (HL.out _ HI.out).mono ?_); rintro e w1 ⟨rfl, hb⟩
      have HI1 := Aside0.mk (At4.below HI.out hb)
      have BB := Aside0.mk hb
      clear hb
      obtain ⟨c0, c1, c2, c3, f0, f1, f2, f3⟩ := cells4k HI1.out
      go_wp2_with fail
      go_ret2
      exact ⟨rfl, blk_put HI1.out 3 _ rfl, KeepBut.set_ (KeepBut.of_below BB.out g none) 3 _, fun B h1 h2 => (belB BB.out h2).setCell (p := ⟨g, 3, none⟩) h1 _⟩
    · have e0 : readV l t true = l := by unfold readV; rw [decide_eq_false lt]; rfl
      have e1 : decide (l < t) = false := decide_eq_false lt
      rw [e0]
      clear e0
      go_enter Try.func45, Try.ntmps45
      go_wp2_with fail
      (with_reducible refine (HL.out _ HI.out).mono ?_); rintro e w1 ⟨rfl, hb⟩
      have HI1 := Aside0.mk (At4.below HI.out hb)
      have BB := Aside0.mk hb
      clear hb
      obtain ⟨c0, c1, c2, c3, f0, f1, f2, f3⟩ := cells4k HI1.out
      go_wp2_with fail
      go_ret2
      exact P4.same HI.out BB.out
end Go.Proofs.Ytjnllejfgljkdaa.P
