/- Of two deadlines the earlier one has no later slot: the walk through the law, for every two deadlines, epoch and length of 64 bits. No condition. -/
import Derived.Test.YtbjepiglagnpjaaQuantLib
namespace Go.Proofs.Ytbjepiglagnpjaa.P
open Go.RowKit Go.Proofs.YtbjepiglagnpjaaW.PrintWords Go.Proofs.YtbjepiglagnpjaaW.PrintLast Go.Proofs.YtbjepiglagnpjaaW.PrintMore
set_option linter.unusedVariables false
set_option linter.unusedSimpArgs false
theorem near_same (a t : Int) (h : bellbuoylaw22_near.f a = some t) (w : World) : Calls Try.prog 19 #[.int .i64 a] w fun e w' => e = .returned (.int .i64 t) ∧ w' = w := by
  obtain rfl := Option.some.inj h
  go_enter Try.func19, Try.ntmps19
  go_wp2
  go_ret
  exact ⟨rfl, rfl⟩
set_option maxHeartbeats 4000000 in
set_option maxRecDepth 100000 in
theorem Order_core (a b x0 x1 t s e m s1 s2 : Int) (vg vl : Bool) (w : World) (h1 : bellbuoylaw22_near.f a = some t) (h2 : bellbuoylaw22_near.f b = some s) (h3 : bellbuoylaw22_near.f x0 = some e)
    (hm : wrap64 (bits .and .i64 x1 1099511627775 + 1) = m) (hs1 : quant_Slot.f t e m = some (s1, true)) (hs2 : quant_Slot.f s e m = some (s2, true))
    (g1 : decide (s < t) = vg) (l1 : decide (t < s) = vl) (c1 : vg = false → decide (s1 ≤ s2) = true) (c2 : vl = false → decide (s2 ≤ s1) = true) :
    Calls Try.prog 4 #[.int .i64 a, .int .i64 b, .agg #[.int .i64 x0, .int .i64 x1]] w fun e w' => e = .returned (.bool true) ∧ Below w.heap.size w w' := by
  have hu29 := Try.underlying29
  have H1 := Aside0.mk h1; clear h1
  have H2 := Aside0.mk h2; clear h2
  have H3 := Aside0.mk h3; clear h3
  have Hm := Aside0.mk hm; clear hm
  have S1 := Aside0.mk hs1; clear hs1
  have S2 := Aside0.mk hs2; clear hs2
  have C1 := Aside0.mk c1; clear c1
  have C2 := Aside0.mk c2; clear c2
  cases vg <;> cases vl
  case true.true => simp at g1 l1; omega
  case' false.false => have d1 := C1.out rfl; have d2 := C2.out rfl
  case' false.true => have d1 := C1.out rfl
  case' true.false => have d2 := C2.out rfl
  all_goals
    clear C1 C2
    go_enter Try.func4, Try.ntmps4
    go_wp2_with (first | (go_at_call 19; (with_reducible refine (near_same a t H1.out _).mono ?_); rintro e w1 ⟨rfl, rfl⟩) | (go_at_call 19; (with_reducible refine (near_same b s H2.out _).mono ?_); rintro e w1 ⟨rfl, rfl⟩))
    go_quiet ((go_at_call 19; exact Calls.quiet_of_same (near_same x0 e H3.out _)))
    rw [Hm.out]
    go_wp2_with (first | (go_at_call 8; (with_reducible refine (quant_Slot.calls t e m s1 true _ S1.out).mono ?_); rintro e w1 ⟨rfl, hb1⟩) | (go_at_call 8; (with_reducible refine (quant_Slot.calls s e m s2 true _ S2.out).mono ?_); rintro e w2 ⟨rfl, hb2⟩) | (go_at_call 16; (with_reducible refine (bellbuoylaw22_live.calls true _ live_eq).mono ?_); rintro e w3 ⟨rfl, hb3⟩))
    go_ret
    exact ⟨rfl, below_step (below_step (below_step (pw_below_drewN (below_alloc (Below.refl _ _) _) nq) hb1) hb2) hb3⟩
theorem slotV_mono (p q : Int) (h : p ≤ q) : slotV p ≤ slotV q := by
  unfold slotV
  repeat' split
  all_goals omega
theorem QuantOrder_walk (a0 a1 x0 x1 : Int) (w : World) (_w0 : (Lit.int .i64 a0).wf = true) (_w1 : (Lit.int .i64 a1).wf = true) (_w2 : (Lit.int .i64 x0).wf = true) (_w3 : (Lit.int .i64 x1).wf = true) :
    Calls Try.prog 4 #[.int .i64 a0, .int .i64 a1, .agg #[.int .i64 x0, .int .i64 x1]] w fun e w' => e = .returned (.bool true) ∧ Below w.heap.size w w' := by
  obtain ⟨t, ht, t0, t1⟩ := near_eq a0
  obtain ⟨s, hs, s0, s1⟩ := near_eq a1
  obtain ⟨e, he, e0, e1⟩ := near_eq x0
  obtain ⟨m, hm, m0, m1⟩ := len_eq x1
  have Tt : Tm t := ⟨by omega, by omega⟩
  have Ts : Tm s := ⟨by omega, by omega⟩
  have Te : Tm e := ⟨by omega, by omega⟩
  have Lm : Ln m := ⟨m0, m1⟩
  refine Order_core a0 a1 x0 x1 t s e m _ _ _ _ w ht hs he hm (Slot_eq t e m Tt Te Lm) (Slot_eq s e m Ts Te Lm) rfl rfl (fun h => ?_) (fun h => ?_)
  · rw [decide_eq_false_iff_not] at h
    rw [decide_eq_true_eq]
    exact slotV_mono _ _ (Int.ediv_le_ediv (by omega) (by omega))
  · rw [decide_eq_false_iff_not] at h
    rw [decide_eq_true_eq]
    exact slotV_mono _ _ (Int.ediv_le_ediv (by omega) (by omega))
end Go.Proofs.Ytbjepiglagnpjaa.P
