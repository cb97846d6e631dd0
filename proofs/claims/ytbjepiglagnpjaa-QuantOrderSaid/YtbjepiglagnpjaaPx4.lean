/- What is proved here: each Go function that this text names answers as the Lean function of its name says, whenever that one answers; and a law's row follows from its plain statement. Laid by a program of the session over the kit's print. -/
import Derived.Test.YtbjepiglagnpjaaPx0
import Derived.Test.YtbjepiglagnpjaaPx1
import Derived.Test.YtbjepiglagnpjaaPx2
import Derived.Test.YtbjepiglagnpjaaPx3
namespace Go.Proofs.Ytbjepiglagnpjaa.P
open Go.RowKit Go.Proofs.YtbjepiglagnpjaaW.PrintWords Go.Proofs.YtbjepiglagnpjaaW.PrintLast Go.Proofs.YtbjepiglagnpjaaW.PrintMore
attribute [local go_sem] max2_int min2_int max_two min_two max_three min_three max_four min_four   -- for this text's walks alone
set_option linter.unusedVariables false
set_option linter.unusedSimpArgs false

/-! ### bellbuoylaw22_QuantPromotes: function 6 -/
def bellbuoylaw22_QuantPromotes.j0 : Nat → Int → Int → Int → Int → Int → Bool → Option (Bool)
  | 0, _, _, _, _, _, _ => none
  | k + 1, x0, x1, x7, x8, x10, x51 => if x51 = true then (some false) else ((bellbuoylaw22_live.f).bind fun t206 => (if t206 = true then (if x8 = 0 then (some true) else ((quant_Far.f x0 x1 x7).bind fun t207 => (if t207 = true then (some true) else (some (x10 == (wrap64 (x8 - 1))))))) else (some false)))
def bellbuoylaw22_QuantPromotes.f (k : Nat) (a0 : Int) (a1 : Int) (a2 : Int) : Option (Bool) := (bellbuoylaw22_near.f a0).bind fun t200 => ((bellbuoylaw22_near.f a1).bind fun t201 => ((quant_Slot.f t200 t201 (wrap64 ((Go.bits .and .i64 a2 1099511627775) + 1))).bind fun bt202 => ((quant_Slot.f t200 (wrap64 (t201 + (wrap64 ((Go.bits .and .i64 a2 1099511627775) + 1)))) (wrap64 ((Go.bits .and .i64 a2 1099511627775) + 1))).bind fun bt204 => (if bt202.2 = true then (if bt204.2 = true then (if bt204.1 > bt202.1 then (bellbuoylaw22_QuantPromotes.j0 k t200 t201 (wrap64 ((Go.bits .and .i64 a2 1099511627775) + 1)) bt202.1 bt204.1 true) else (bellbuoylaw22_QuantPromotes.j0 k t200 t201 (wrap64 ((Go.bits .and .i64 a2 1099511627775) + 1)) bt202.1 bt204.1 (decide (bt204.1 < (wrap64 (bt202.1 - 1)))))) else (bellbuoylaw22_QuantPromotes.j0 k t200 t201 (wrap64 ((Go.bits .and .i64 a2 1099511627775) + 1)) bt202.1 bt204.1 true)) else (bellbuoylaw22_QuantPromotes.j0 k t200 t201 (wrap64 ((Go.bits .and .i64 a2 1099511627775) + 1)) bt202.1 bt204.1 true)))))
theorem bellbuoylaw22_QuantPromotes.mono_l : ∀ k, (∀ y0 y1 y2 y3 y4 y5, LeO (bellbuoylaw22_QuantPromotes.j0 k y0 y1 y2 y3 y4 y5) (bellbuoylaw22_QuantPromotes.j0 (k + 1) y0 y1 y2 y3 y4 y5))
  | 0 => fun _ _ _ _ _ _ r h => by simp [bellbuoylaw22_QuantPromotes.j0] at h
  | k + 1 => by
    have ih0 := bellbuoylaw22_QuantPromotes.mono_l k
    · intro y0 y1 y2 y3 y4 y5
      unfold bellbuoylaw22_QuantPromotes.j0
      repeat' first
      | (with_reducible exact ih0 _ _ _ _ _ _)
      | (with_reducible exact LeO.refl _)
      | (with_reducible exact LeO.none _)
      | (with_reducible refine LeO.ite ?_ ?_)
      | (with_reducible refine LeO.bind ?_ (fun _ => ?_))
      | exact ih0 _ _ _ _ _ _
      | exact LeO.none _
      | refine LeO.ite ?_ ?_
      | refine LeO.bind ?_ (fun _ => ?_)
theorem bellbuoylaw22_QuantPromotes.mono : ∀ a0 a1 a2 k, LeO (bellbuoylaw22_QuantPromotes.f k a0 a1 a2) (bellbuoylaw22_QuantPromotes.f (k + 1) a0 a1 a2) := by
  intro a0 a1 a2 k
  have ih0 := bellbuoylaw22_QuantPromotes.mono_l k
  unfold bellbuoylaw22_QuantPromotes.f
  repeat' first
      | (with_reducible exact ih0 _ _ _ _ _ _)
      | (with_reducible exact LeO.refl _)
      | (with_reducible exact LeO.none _)
      | (with_reducible refine LeO.ite ?_ ?_)
      | (with_reducible refine LeO.bind ?_ (fun _ => ?_))
      | exact ih0 _ _ _ _ _ _
      | exact LeO.none _
      | refine LeO.ite ?_ ?_
      | refine LeO.bind ?_ (fun _ => ?_)
set_option maxHeartbeats 8000000 in
set_option maxRecDepth 100000 in
theorem bellbuoylaw22_QuantPromotes.calls (k : Nat) (a0 : Int) (a1 : Int) (a2 : Int) (r : Bool) (w : World) (h : bellbuoylaw22_QuantPromotes.f k a0 a1 a2 = some r) :
    Calls Try.prog 6 #[.int .i64 a0, .int .i64 a1, .int .i64 a2] w fun e w' => e = .returned (.bool r) ∧ Below w.heap.size w w' := by
  have HB := Aside0.mk (Below.refl w.heap.size w)
  have H : ((bellbuoylaw22_near.f a0).bind fun t200 => ((bellbuoylaw22_near.f a1).bind fun t201 => ((quant_Slot.f t200 t201 (wrap64 ((Go.bits .and .i64 a2 1099511627775) + 1))).bind fun bt202 => ((quant_Slot.f t200 (wrap64 (t201 + (wrap64 ((Go.bits .and .i64 a2 1099511627775) + 1)))) (wrap64 ((Go.bits .and .i64 a2 1099511627775) + 1))).bind fun bt204 => (if bt202.2 = true then (if bt204.2 = true then (if bt204.1 > bt202.1 then (bellbuoylaw22_QuantPromotes.j0 k t200 t201 (wrap64 ((Go.bits .and .i64 a2 1099511627775) + 1)) bt202.1 bt204.1 true) else (bellbuoylaw22_QuantPromotes.j0 k t200 t201 (wrap64 ((Go.bits .and .i64 a2 1099511627775) + 1)) bt202.1 bt204.1 (decide (bt204.1 < (wrap64 (bt202.1 - 1)))))) else (bellbuoylaw22_QuantPromotes.j0 k t200 t201 (wrap64 ((Go.bits .and .i64 a2 1099511627775) + 1)) bt202.1 bt204.1 true)) else (bellbuoylaw22_QuantPromotes.j0 k t200 t201 (wrap64 ((Go.bits .and .i64 a2 1099511627775) + 1)) bt202.1 bt204.1 true)))))) = some r := h
  clear h
  replace H := Option.bind_eq_some_iff.mp H
  obtain ⟨t200, A40, H⟩ := H
  replace H : ((bellbuoylaw22_near.f a1).bind fun t201 => ((quant_Slot.f t200 t201 (wrap64 ((Go.bits .and .i64 a2 1099511627775) + 1))).bind fun bt202 => ((quant_Slot.f t200 (wrap64 (t201 + (wrap64 ((Go.bits .and .i64 a2 1099511627775) + 1)))) (wrap64 ((Go.bits .and .i64 a2 1099511627775) + 1))).bind fun bt204 => (if bt202.2 = true then (if bt204.2 = true then (if bt204.1 > bt202.1 then (bellbuoylaw22_QuantPromotes.j0 k t200 t201 (wrap64 ((Go.bits .and .i64 a2 1099511627775) + 1)) bt202.1 bt204.1 true) else (bellbuoylaw22_QuantPromotes.j0 k t200 t201 (wrap64 ((Go.bits .and .i64 a2 1099511627775) + 1)) bt202.1 bt204.1 (decide (bt204.1 < (wrap64 (bt202.1 - 1)))))) else (bellbuoylaw22_QuantPromotes.j0 k t200 t201 (wrap64 ((Go.bits .and .i64 a2 1099511627775) + 1)) bt202.1 bt204.1 true)) else (bellbuoylaw22_QuantPromotes.j0 k t200 t201 (wrap64 ((Go.bits .and .i64 a2 1099511627775) + 1)) bt202.1 bt204.1 true))))) = some r := H
  have A4 := Aside0.mk A40
  clear A40
  replace H := Option.bind_eq_some_iff.mp H
  obtain ⟨t201, A50, H⟩ := H
  replace H : ((quant_Slot.f t200 t201 (wrap64 ((Go.bits .and .i64 a2 1099511627775) + 1))).bind fun bt202 => ((quant_Slot.f t200 (wrap64 (t201 + (wrap64 ((Go.bits .and .i64 a2 1099511627775) + 1)))) (wrap64 ((Go.bits .and .i64 a2 1099511627775) + 1))).bind fun bt204 => (if bt202.2 = true then (if bt204.2 = true then (if bt204.1 > bt202.1 then (bellbuoylaw22_QuantPromotes.j0 k t200 t201 (wrap64 ((Go.bits .and .i64 a2 1099511627775) + 1)) bt202.1 bt204.1 true) else (bellbuoylaw22_QuantPromotes.j0 k t200 t201 (wrap64 ((Go.bits .and .i64 a2 1099511627775) + 1)) bt202.1 bt204.1 (decide (bt204.1 < (wrap64 (bt202.1 - 1)))))) else (bellbuoylaw22_QuantPromotes.j0 k t200 t201 (wrap64 ((Go.bits .and .i64 a2 1099511627775) + 1)) bt202.1 bt204.1 true)) else (bellbuoylaw22_QuantPromotes.j0 k t200 t201 (wrap64 ((Go.bits .and .i64 a2 1099511627775) + 1)) bt202.1 bt204.1 true)))) = some r := H
  have A5 := Aside0.mk A50
  clear A50
  replace H := Option.bind_eq_some_iff.mp H
  obtain ⟨⟨t202, t203⟩, A60, H⟩ := H
  replace H : ((quant_Slot.f t200 (wrap64 (t201 + (wrap64 ((Go.bits .and .i64 a2 1099511627775) + 1)))) (wrap64 ((Go.bits .and .i64 a2 1099511627775) + 1))).bind fun bt204 => (if t203 = true then (if bt204.2 = true then (if bt204.1 > t202 then (bellbuoylaw22_QuantPromotes.j0 k t200 t201 (wrap64 ((Go.bits .and .i64 a2 1099511627775) + 1)) t202 bt204.1 true) else (bellbuoylaw22_QuantPromotes.j0 k t200 t201 (wrap64 ((Go.bits .and .i64 a2 1099511627775) + 1)) t202 bt204.1 (decide (bt204.1 < (wrap64 (t202 - 1)))))) else (bellbuoylaw22_QuantPromotes.j0 k t200 t201 (wrap64 ((Go.bits .and .i64 a2 1099511627775) + 1)) t202 bt204.1 true)) else (bellbuoylaw22_QuantPromotes.j0 k t200 t201 (wrap64 ((Go.bits .and .i64 a2 1099511627775) + 1)) t202 bt204.1 true))) = some r := H
  have A6 := Aside0.mk A60
  clear A60
  replace H := Option.bind_eq_some_iff.mp H
  obtain ⟨⟨t204, t205⟩, A70, H⟩ := H
  replace H : (if t203 = true then (if t205 = true then (if t204 > t202 then (bellbuoylaw22_QuantPromotes.j0 k t200 t201 (wrap64 ((Go.bits .and .i64 a2 1099511627775) + 1)) t202 t204 true) else (bellbuoylaw22_QuantPromotes.j0 k t200 t201 (wrap64 ((Go.bits .and .i64 a2 1099511627775) + 1)) t202 t204 (decide (t204 < (wrap64 (t202 - 1)))))) else (bellbuoylaw22_QuantPromotes.j0 k t200 t201 (wrap64 ((Go.bits .and .i64 a2 1099511627775) + 1)) t202 t204 true)) else (bellbuoylaw22_QuantPromotes.j0 k t200 t201 (wrap64 ((Go.bits .and .i64 a2 1099511627775) + 1)) t202 t204 true)) = some r := H
  have A7 := Aside0.mk A70
  clear A70
  have HC8 := Aside0.mk H
  clear H
  go_enter Try.func6, Try.ntmps6
  go_upto_region 5 with (first | ((with_reducible refine gate_callee (f := 19) rfl ?_); refine goesL_ (some 13) rfl rfl Try.func19 (by kernel_rfl) rfl #[.int .i64 a0] rfl (by (try simp only [List.map_toArray, List.map_cons, List.map_nil]); first | done | rfl | (simp only [List.length_drop, List.length_take]; rfl)) ?_; (with_reducible refine (bellbuoylaw22_near.calls a0 t200 _ A4.out).mono ?_); rintro e w' ⟨rfl, ⟨nd, rfl⟩⟩; refine ⟨_, rfl, ?_⟩) | ((with_reducible refine gate_callee (f := 19) rfl ?_); refine goesL_ (some 15) rfl rfl Try.func19 (by kernel_rfl) rfl #[.int .i64 a1] rfl (by (try simp only [List.map_toArray, List.map_cons, List.map_nil]); first | done | rfl | (simp only [List.length_drop, List.length_take]; rfl)) ?_; (with_reducible refine (bellbuoylaw22_near.calls a1 t201 _ A5.out).mono ?_); rintro e w' ⟨rfl, ⟨nd, rfl⟩⟩; refine ⟨_, rfl, ?_⟩) | ((with_reducible refine gate_callee (f := 8) rfl ?_); refine goesL_ (some 23) rfl rfl Try.func8 (by kernel_rfl) rfl #[.int .i64 t200, .int .i64 t201, .int .i64 (wrap64 ((Go.bits .and .i64 a2 1099511627775) + 1))] rfl (by (try simp only [List.map_toArray, List.map_cons, List.map_nil]); first | done | rfl | (simp only [List.length_drop, List.length_take]; rfl)) ?_; (with_reducible refine (quant_Slot.calls t200 t201 (wrap64 ((Go.bits .and .i64 a2 1099511627775) + 1)) t202 t203 _ A6.out).mono ?_); rintro e w9 ⟨rfl, hb⟩; refine ⟨_, rfl, ?_⟩; have n0_ := Aside0.mk (below_step (by repeat (first | (with_reducible first | exact HB.out | apply below_alloc | apply pw_below_drewN | apply below_drew1) | exact HB.out)) hb); clear HB; have HB := n0_; clear n0_; (try clear hb); (try clear hb2); (try clear hk); (try clear hi)) | ((with_reducible refine gate_callee (f := 8) rfl ?_); refine goesL_ (some 32) rfl rfl Try.func8 (by kernel_rfl) rfl #[.int .i64 t200, .int .i64 (wrap64 (t201 + (wrap64 ((Go.bits .and .i64 a2 1099511627775) + 1)))), .int .i64 (wrap64 ((Go.bits .and .i64 a2 1099511627775) + 1))] rfl (by (try simp only [List.map_toArray, List.map_cons, List.map_nil]); first | done | rfl | (simp only [List.length_drop, List.length_take]; rfl)) ?_; (with_reducible refine (quant_Slot.calls t200 (wrap64 (t201 + (wrap64 ((Go.bits .and .i64 a2 1099511627775) + 1)))) (wrap64 ((Go.bits .and .i64 a2 1099511627775) + 1)) t204 t205 _ A7.out).mono ?_); rintro e w10 ⟨rfl, hb⟩; refine ⟨_, rfl, ?_⟩; have n0_ := Aside0.mk (below_step (by repeat (first | (with_reducible first | exact HB.out | apply below_alloc | apply pw_below_drewN | apply below_drew1) | exact HB.out)) hb); clear HB; have HB := n0_; clear n0_; (try clear hb); (try clear hb2); (try clear hk); (try clear hi)))
  (try simp only [Act.put, List.setIfInBounds_toArray, List.set_cons_zero, List.set_cons_succ])
  go_cut [51] (fun v51 wc => ∃ (kq : Nat) (x51_7 : Bool), v51 = .bool x51_7 ∧ Aside0 (bellbuoylaw22_QuantPromotes.j0 kq t200 t201 (wrap64 ((Go.bits .and .i64 a2 1099511627775) + 1)) t202 t204 x51_7 = some r) ∧ Aside0 (kq ≤ k) ∧ Aside0 (Below w.heap.size w wc))
  case first =>
    have H := HC8.out
    clear HC8
    by_cases c11 : t203 = true
    · subst c11
      have H1 : (if t205 = true then (if t204 > t202 then (bellbuoylaw22_QuantPromotes.j0 k t200 t201 (wrap64 ((Go.bits .and .i64 a2 1099511627775) + 1)) t202 t204 true) else (bellbuoylaw22_QuantPromotes.j0 k t200 t201 (wrap64 ((Go.bits .and .i64 a2 1099511627775) + 1)) t202 t204 (decide (t204 < (wrap64 (t202 - 1)))))) else (bellbuoylaw22_QuantPromotes.j0 k t200 t201 (wrap64 ((Go.bits .and .i64 a2 1099511627775) + 1)) t202 t204 true)) = some r := by rw [if_pos rfl] at H; exact H
      clear H
      have H := H1
      clear H1
      by_cases c12 : t205 = true
      · subst c12
        have H1 : (if t204 > t202 then (bellbuoylaw22_QuantPromotes.j0 k t200 t201 (wrap64 ((Go.bits .and .i64 a2 1099511627775) + 1)) t202 t204 true) else (bellbuoylaw22_QuantPromotes.j0 k t200 t201 (wrap64 ((Go.bits .and .i64 a2 1099511627775) + 1)) t202 t204 (decide (t204 < (wrap64 (t202 - 1)))))) = some r := by rw [if_pos rfl] at H; exact H
        clear H
        have H := H1
        clear H1
        by_cases c13 : t204 > t202
        · rw [if_pos c13] at H
          have c13b0 : decide (t202 < t204) = true := decide_eq_true c13
          clear c13
          (first | rw [c13b0] | (simp only [i64_w, i32_w]; rw [c13b0]) | skip)
          have H' := Aside0.mk H
          clear H
          go_wp2
          go_meet
          case rel => exact ⟨_, (true), (by first | rfl | (simp; done) | (simp [*]; done)), H', ⟨by first | omega | exact Nat.le_refl _⟩, ⟨by repeat (first | (with_reducible first | exact HB.out | apply below_alloc | apply pw_below_drewN | apply below_drew1) | exact HB.out)⟩⟩
        · rw [if_neg c13] at H
          have c13b0 : decide (t202 < t204) = false := decide_eq_false c13
          clear c13
          (first | rw [c13b0] | (simp only [i64_w, i32_w]; rw [c13b0]) | skip)
          have H' := Aside0.mk H
          clear H
          go_wp2
          go_meet
          case rel => exact ⟨_, (decide (t204 < (wrap64 (t202 - 1)))), (by first | rfl | (simp; done) | (simp [*]; done)), H', ⟨by first | omega | exact Nat.le_refl _⟩, ⟨by repeat (first | (with_reducible first | exact HB.out | apply below_alloc | apply pw_below_drewN | apply below_drew1) | exact HB.out)⟩⟩
      · replace c12 := Bool.eq_false_iff.mpr c12
        subst c12
        have H1 : (bellbuoylaw22_QuantPromotes.j0 k t200 t201 (wrap64 ((Go.bits .and .i64 a2 1099511627775) + 1)) t202 t204 true) = some r := by rw [if_neg (show ¬ (false = true) by decide)] at H; exact H
        clear H
        have H := H1
        clear H1
        have H' := Aside0.mk H
        clear H
        go_wp2
        go_meet
        case rel => exact ⟨_, (true), (by first | rfl | (simp; done) | (simp [*]; done)), H', ⟨by first | omega | exact Nat.le_refl _⟩, ⟨by repeat (first | (with_reducible first | exact HB.out | apply below_alloc | apply pw_below_drewN | apply below_drew1) | exact HB.out)⟩⟩
    · replace c11 := Bool.eq_false_iff.mpr c11
      subst c11
      have H1 : (bellbuoylaw22_QuantPromotes.j0 k t200 t201 (wrap64 ((Go.bits .and .i64 a2 1099511627775) + 1)) t202 t204 true) = some r := by rw [if_neg (show ¬ (false = true) by decide)] at H; exact H
      clear H
      have H := H1
      clear H1
      have H' := Aside0.mk H
      clear H
      go_wp2
      go_meet
      case rel => exact ⟨_, (true), (by first | rfl | (simp; done) | (simp [*]; done)), H', ⟨by first | omega | exact Nat.le_refl _⟩, ⟨by repeat (first | (with_reducible first | exact HB.out | apply below_alloc | apply pw_below_drewN | apply below_drew1) | exact HB.out)⟩⟩
  case rest =>
    clear HC8
    try clear c1
    try clear p2
    try clear c6
    try clear p6
    try clear c8
    try clear c11
    try clear c12
    try clear c13
    try clear c13b0
    obtain ⟨kq, x51_7, rfl, HA, HJ7, HB⟩ := hcut
    cases kq with
    | zero => exact absurd HA.out (by simp [bellbuoylaw22_QuantPromotes.j0])
    | succ kj7 =>
      have H := HA.out
      clear HA
      simp only [bellbuoylaw22_QuantPromotes.j0] at H
      by_cases c14 : x51_7 = true
      · subst c14
        have H1 : (some false) = some r := by rw [if_pos rfl] at H; exact H
        clear H
        have H := H1
        clear H1
        obtain rfl := Option.some.inj H
        go_wp2
        go_ret
        exact ⟨by first | rfl | (simp [errW_none, errW_some] <;> rfl) | (simp [*, errW_none, errW_some] <;> rfl), by repeat (first | (with_reducible first | exact HB.out | apply below_alloc | apply pw_below_drewN | apply below_drew1) | exact HB.out)⟩
      · replace c14 := Bool.eq_false_iff.mpr c14
        subst c14
        have H1 : ((bellbuoylaw22_live.f).bind fun t206 => (if t206 = true then (if t202 = 0 then (some true) else ((quant_Far.f t200 t201 (wrap64 ((Go.bits .and .i64 a2 1099511627775) + 1))).bind fun t207 => (if t207 = true then (some true) else (some (t204 == (wrap64 (t202 - 1))))))) else (some false))) = some r := by rw [if_neg (show ¬ (false = true) by decide)] at H; exact H
        clear H
        have H := H1
        clear H1
        replace H := Option.bind_eq_some_iff.mp H
        obtain ⟨t206, A150, H⟩ := H
        replace H : (if t206 = true then (if t202 = 0 then (some true) else ((quant_Far.f t200 t201 (wrap64 ((Go.bits .and .i64 a2 1099511627775) + 1))).bind fun t207 => (if t207 = true then (some true) else (some (t204 == (wrap64 (t202 - 1))))))) else (some false)) = some r := H
        have A15 := Aside0.mk A150
        clear A150
        by_cases c16 : t206 = true
        · subst c16
          have H1 : (if t202 = 0 then (some true) else ((quant_Far.f t200 t201 (wrap64 ((Go.bits .and .i64 a2 1099511627775) + 1))).bind fun t207 => (if t207 = true then (some true) else (some (t204 == (wrap64 (t202 - 1))))))) = some r := by rw [if_pos rfl] at H; exact H
          clear H
          have H := H1
          clear H1
          by_cases c17 : t202 = 0
          · rw [if_pos c17] at H
            have c17b0 : (t202 == 0) = true := beq_iff_eq.mpr c17
            have c17b1 : (t202 != 0) = false := bne_eq_false_iff_eq.mpr c17
            clear c17
            obtain rfl := Option.some.inj H
            go_wp2_with (first | ((with_reducible refine gate_callee (f := 16) rfl ?_); refine goesL_ (some 52) rfl rfl Try.func16 (by kernel_rfl) rfl #[] rfl (by (try simp only [List.map_toArray, List.map_cons, List.map_nil]); first | done | rfl | (simp only [List.length_drop, List.length_take]; rfl)) ?_; (with_reducible refine (bellbuoylaw22_live.calls  true _ A15.out).mono ?_); rintro e w18 ⟨rfl, hb⟩; refine ⟨_, rfl, ?_⟩; have n0_ := Aside0.mk (below_step (by repeat (first | (with_reducible first | exact HB.out | apply below_alloc | apply pw_below_drewN | apply below_drew1) | exact HB.out)) hb); clear HB; have HB := n0_; clear n0_; (try clear hb); (try clear hb2); (try clear hk); (try clear hi)))
            go_ret
            exact ⟨by first | rfl | (simp [errW_none, errW_some] <;> rfl) | (simp [*, errW_none, errW_some] <;> rfl), by repeat (first | (with_reducible first | exact HB.out | apply below_alloc | apply pw_below_drewN | apply below_drew1) | exact HB.out)⟩
          · rw [if_neg c17] at H
            have c17b0 : (t202 == 0) = false := beq_eq_false_iff_ne.mpr c17
            have c17b1 : (t202 != 0) = true := bne_iff_ne.mpr c17
            replace H := Option.bind_eq_some_iff.mp H
            obtain ⟨t207, A190, H⟩ := H
            replace H : (if t207 = true then (some true) else (some (t204 == (wrap64 (t202 - 1))))) = some r := H
            have A19 := Aside0.mk A190
            clear A190
            by_cases c20 : t207 = true
            · subst c20
              have H1 : (some true) = some r := by rw [if_pos rfl] at H; exact H
              clear H
              have H := H1
              clear H1
              obtain rfl := Option.some.inj H
              go_wp2_with (first | ((with_reducible refine gate_callee (f := 16) rfl ?_); refine goesL_ (some 52) rfl rfl Try.func16 (by kernel_rfl) rfl #[] rfl (by (try simp only [List.map_toArray, List.map_cons, List.map_nil]); first | done | rfl | (simp only [List.length_drop, List.length_take]; rfl)) ?_; (with_reducible refine (bellbuoylaw22_live.calls  true _ A15.out).mono ?_); rintro e w21 ⟨rfl, hb⟩; refine ⟨_, rfl, ?_⟩; have n0_ := Aside0.mk (below_step (by repeat (first | (with_reducible first | exact HB.out | apply below_alloc | apply pw_below_drewN | apply below_drew1) | exact HB.out)) hb); clear HB; have HB := n0_; clear n0_; (try clear hb); (try clear hb2); (try clear hk); (try clear hi)) | (go_at_call 17; (with_reducible refine (quant_Far.calls t200 t201 (wrap64 ((Go.bits .and .i64 a2 1099511627775) + 1)) true _ A19.out).mono ?_); rintro e w22 ⟨rfl, hb⟩; have n0_ := Aside0.mk (below_step (by repeat (first | (with_reducible first | exact HB.out | apply below_alloc | apply pw_below_drewN | apply below_drew1) | exact HB.out)) hb); clear HB; have HB := n0_; clear n0_; (try clear hb); (try clear hb2); (try clear hk); (try clear hi)))
              go_ret
              exact ⟨by first | rfl | (simp [errW_none, errW_some] <;> rfl) | (simp [*, errW_none, errW_some] <;> rfl), by repeat (first | (with_reducible first | exact HB.out | apply below_alloc | apply pw_below_drewN | apply below_drew1) | exact HB.out)⟩
            · replace c20 := Bool.eq_false_iff.mpr c20
              subst c20
              have H1 : (some (t204 == (wrap64 (t202 - 1)))) = some r := by rw [if_neg (show ¬ (false = true) by decide)] at H; exact H
              clear H
              have H := H1
              clear H1
              obtain rfl := Option.some.inj H
              go_wp2_with (first | ((with_reducible refine gate_callee (f := 16) rfl ?_); refine goesL_ (some 52) rfl rfl Try.func16 (by kernel_rfl) rfl #[] rfl (by (try simp only [List.map_toArray, List.map_cons, List.map_nil]); first | done | rfl | (simp only [List.length_drop, List.length_take]; rfl)) ?_; (with_reducible refine (bellbuoylaw22_live.calls  true _ A15.out).mono ?_); rintro e w23 ⟨rfl, hb⟩; refine ⟨_, rfl, ?_⟩; have n0_ := Aside0.mk (below_step (by repeat (first | (with_reducible first | exact HB.out | apply below_alloc | apply pw_below_drewN | apply below_drew1) | exact HB.out)) hb); clear HB; have HB := n0_; clear n0_; (try clear hb); (try clear hb2); (try clear hk); (try clear hi)) | (go_at_call 17; (with_reducible refine (quant_Far.calls t200 t201 (wrap64 ((Go.bits .and .i64 a2 1099511627775) + 1)) false _ A19.out).mono ?_); rintro e w24 ⟨rfl, hb⟩; have n0_ := Aside0.mk (below_step (by repeat (first | (with_reducible first | exact HB.out | apply below_alloc | apply pw_below_drewN | apply below_drew1) | exact HB.out)) hb); clear HB; have HB := n0_; clear n0_; (try clear hb); (try clear hb2); (try clear hk); (try clear hi)))
              go_ret
              exact ⟨by first | rfl | (simp [errW_none, errW_some] <;> rfl) | (simp [*, errW_none, errW_some] <;> rfl), by repeat (first | (with_reducible first | exact HB.out | apply below_alloc | apply pw_below_drewN | apply below_drew1) | exact HB.out)⟩
        · replace c16 := Bool.eq_false_iff.mpr c16
          subst c16
          have H1 : (some false) = some r := by rw [if_neg (show ¬ (false = true) by decide)] at H; exact H
          clear H
          have H := H1
          clear H1
          obtain rfl := Option.some.inj H
          go_wp2_with (first | ((with_reducible refine gate_callee (f := 16) rfl ?_); refine goesL_ (some 52) rfl rfl Try.func16 (by kernel_rfl) rfl #[] rfl (by (try simp only [List.map_toArray, List.map_cons, List.map_nil]); first | done | rfl | (simp only [List.length_drop, List.length_take]; rfl)) ?_; (with_reducible refine (bellbuoylaw22_live.calls  false _ A15.out).mono ?_); rintro e w25 ⟨rfl, hb⟩; refine ⟨_, rfl, ?_⟩; have n0_ := Aside0.mk (below_step (by repeat (first | (with_reducible first | exact HB.out | apply below_alloc | apply pw_below_drewN | apply below_drew1) | exact HB.out)) hb); clear HB; have HB := n0_; clear n0_; (try clear hb); (try clear hb2); (try clear hk); (try clear hi)))
          go_ret
          exact ⟨by first | rfl | (simp [errW_none, errW_some] <;> rfl) | (simp [*, errW_none, errW_some] <;> rfl), by repeat (first | (with_reducible first | exact HB.out | apply below_alloc | apply pw_below_drewN | apply below_drew1) | exact HB.out)⟩

/-- THE ONE PURE STATEMENT of bellbuoylaw22_QuantPromotes: yours. -/
def bellbuoylaw22_QuantPromotes.Pure : Prop := ∀ (a0 : Int) (a1 : Int) (a2 : Int), (Lit.int .i64 a0).wf = true → (Lit.int .i64 a1).wf = true → (Lit.int .i64 a2).wf = true → ∃ k, bellbuoylaw22_QuantPromotes.f k a0 a1 a2 = some true
theorem bellbuoylaw22_QuantPromotes.walk (P : bellbuoylaw22_QuantPromotes.Pure) (a0 : Int) (a1 : Int) (a2 : Int) (w : World) (w0 : (Lit.int .i64 a0).wf = true) (w1 : (Lit.int .i64 a1).wf = true) (w2 : (Lit.int .i64 a2).wf = true) :
    Calls Try.prog 6 #[.int .i64 a0, .int .i64 a1, .int .i64 a2] w fun e w' => e = .returned (.bool true) ∧ Below w.heap.size w w' := by
  obtain ⟨k, h⟩ := P a0 a1 a2 w0 w1 w2
  refine (bellbuoylaw22_QuantPromotes.calls k a0 a1 a2 true w h).mono ?_
  rintro e w' ⟨rfl, hd⟩
  exact ⟨rfl, hd⟩

/-! ### bellbuoyref01_Mod: function 20 -/
def bellbuoyref01_Mod.f (a0 : Int) (a1 : Int) : Option (Int × Bool) := (bellbuoyref01_Div.f a0 a1).bind fun bt208 => (if bt208.2 = true then (some (wrap64 (a0 - (wrap64 (a1 * bt208.1))), true)) else (some (0, false)))
set_option maxHeartbeats 8000000 in
set_option maxRecDepth 100000 in
theorem bellbuoyref01_Mod.calls (a0 : Int) (a1 : Int) (r1 : Int) (r2 : Bool) (w : World) (h : bellbuoyref01_Mod.f a0 a1 = some (r1, r2)) :
    Calls Try.prog 20 #[.int .i64 a0, .int .i64 a1] w fun e w' => e = .returned (.tuple #[.int .i64 r1, .bool r2]) ∧ Below w.heap.size w w' := by
  have HB := Aside0.mk (Below.refl w.heap.size w)
  have H : ((bellbuoyref01_Div.f a0 a1).bind fun bt208 => (if bt208.2 = true then (some (wrap64 (a0 - (wrap64 (a1 * bt208.1))), true)) else (some (0, false)))) = some (r1, r2) := h
  clear h
  replace H := Option.bind_eq_some_iff.mp H
  obtain ⟨⟨t208, t209⟩, A30, H⟩ := H
  replace H : (if t209 = true then (some (wrap64 (a0 - (wrap64 (a1 * t208))), true)) else (some (0, false))) = some (r1, r2) := H
  have A3 := Aside0.mk A30
  clear A30
  by_cases c4 : t209 = true
  · subst c4
    have H1 : (some (wrap64 (a0 - (wrap64 (a1 * t208))), true)) = some (r1, r2) := by rw [if_pos rfl] at H; exact H
    clear H
    have H := H1
    clear H1
    simp only [Option.some.injEq, Prod.mk.injEq] at H
    obtain ⟨rfl, rfl⟩ := H
    go_enter Try.func20, Try.ntmps20
    go_wp2_with (first | ((with_reducible refine gate_callee (f := 26) rfl ?_); refine goesL_ (some 11) rfl rfl Try.func26 (by kernel_rfl) rfl #[.int .i64 a0, .int .i64 a1] rfl (by (try simp only [List.map_toArray, List.map_cons, List.map_nil]); first | done | rfl | (simp only [List.length_drop, List.length_take]; rfl)) ?_; (with_reducible refine (bellbuoyref01_Div.calls a0 a1 t208 true _ A3.out).mono ?_); rintro e w5 ⟨rfl, hb⟩; refine ⟨_, rfl, ?_⟩; have n0_ := Aside0.mk (below_step (by repeat (first | (with_reducible first | exact HB.out | apply below_alloc | apply pw_below_drewN | apply below_drew1) | exact HB.out)) hb); clear HB; have HB := n0_; clear n0_; (try clear hb); (try clear hb2); (try clear hk); (try clear hi)))
    go_ret2
    exact ⟨by first | rfl | (simp [errW_none, errW_some] <;> rfl) | (simp [*, errW_none, errW_some] <;> rfl), by repeat (first | (with_reducible first | exact HB.out | apply below_alloc | apply pw_below_drewN | apply below_drew1) | exact HB.out)⟩
  · replace c4 := Bool.eq_false_iff.mpr c4
    subst c4
    have H1 : (some (0, false)) = some (r1, r2) := by rw [if_neg (show ¬ (false = true) by decide)] at H; exact H
    clear H
    have H := H1
    clear H1
    simp only [Option.some.injEq, Prod.mk.injEq] at H
    obtain ⟨rfl, rfl⟩ := H
    go_enter Try.func20, Try.ntmps20
    go_wp2_with (first | ((with_reducible refine gate_callee (f := 26) rfl ?_); refine goesL_ (some 11) rfl rfl Try.func26 (by kernel_rfl) rfl #[.int .i64 a0, .int .i64 a1] rfl (by (try simp only [List.map_toArray, List.map_cons, List.map_nil]); first | done | rfl | (simp only [List.length_drop, List.length_take]; rfl)) ?_; (with_reducible refine (bellbuoyref01_Div.calls a0 a1 t208 false _ A3.out).mono ?_); rintro e w6 ⟨rfl, hb⟩; refine ⟨_, rfl, ?_⟩; have n0_ := Aside0.mk (below_step (by repeat (first | (with_reducible first | exact HB.out | apply below_alloc | apply pw_below_drewN | apply below_drew1) | exact HB.out)) hb); clear HB; have HB := n0_; clear n0_; (try clear hb); (try clear hb2); (try clear hk); (try clear hi)))
    go_ret2
    exact ⟨by first | rfl | (simp [errW_none, errW_some] <;> rfl) | (simp [*, errW_none, errW_some] <;> rfl), by repeat (first | (with_reducible first | exact HB.out | apply below_alloc | apply pw_below_drewN | apply below_drew1) | exact HB.out)⟩

/-! ### bellbuoylaw22_QuantEpochs: function 7 -/
def bellbuoylaw22_QuantEpochs.f (a0 : Int) (a1 : Int) : Option (Bool) := (bellbuoylaw22_near.f a0).bind fun t210 => ((quant_Epoch.f t210 (wrap64 ((Go.bits .and .i64 a1 1099511627775) + 1))).bind fun bt211 => ((quant_Next.f t210 (wrap64 ((Go.bits .and .i64 a1 1099511627775) + 1))).bind fun bt213 => ((bellbuoyref01_Mod.f bt211.1 (wrap64 ((Go.bits .and .i64 a1 1099511627775) + 1))).bind fun bt215 => ((bellbuoylaw22_live.f).bind fun t217 => (if t217 = true then (if bt211.2 = true then (if bt213.2 = true then (if bt211.1 ≤ t210 then (if t210 < bt213.1 then (if (wrap64 (bt213.1 - bt211.1)) = (wrap64 ((Go.bits .and .i64 a1 1099511627775) + 1)) then (some (bt215.1 == 0)) else (some false)) else (some false)) else (some false)) else (some false)) else (some false)) else (some false))))))
set_option maxHeartbeats 8000000 in
set_option maxRecDepth 100000 in
theorem bellbuoylaw22_QuantEpochs.calls (a0 : Int) (a1 : Int) (r : Bool) (w : World) (h : bellbuoylaw22_QuantEpochs.f a0 a1 = some r) :
    Calls Try.prog 7 #[.int .i64 a0, .int .i64 a1] w fun e w' => e = .returned (.bool r) ∧ Below w.heap.size w w' := by
  have HB := Aside0.mk (Below.refl w.heap.size w)
  have H : ((bellbuoylaw22_near.f a0).bind fun t210 => ((quant_Epoch.f t210 (wrap64 ((Go.bits .and .i64 a1 1099511627775) + 1))).bind fun bt211 => ((quant_Next.f t210 (wrap64 ((Go.bits .and .i64 a1 1099511627775) + 1))).bind fun bt213 => ((bellbuoyref01_Mod.f bt211.1 (wrap64 ((Go.bits .and .i64 a1 1099511627775) + 1))).bind fun bt215 => ((bellbuoylaw22_live.f).bind fun t217 => (if t217 = true then (if bt211.2 = true then (if bt213.2 = true then (if bt211.1 ≤ t210 then (if t210 < bt213.1 then (if (wrap64 (bt213.1 - bt211.1)) = (wrap64 ((Go.bits .and .i64 a1 1099511627775) + 1)) then (some (bt215.1 == 0)) else (some false)) else (some false)) else (some false)) else (some false)) else (some false)) else (some false))))))) = some r := h
  clear h
  replace H := Option.bind_eq_some_iff.mp H
  obtain ⟨t210, A30, H⟩ := H
  replace H : ((quant_Epoch.f t210 (wrap64 ((Go.bits .and .i64 a1 1099511627775) + 1))).bind fun bt211 => ((quant_Next.f t210 (wrap64 ((Go.bits .and .i64 a1 1099511627775) + 1))).bind fun bt213 => ((bellbuoyref01_Mod.f bt211.1 (wrap64 ((Go.bits .and .i64 a1 1099511627775) + 1))).bind fun bt215 => ((bellbuoylaw22_live.f).bind fun t217 => (if t217 = true then (if bt211.2 = true then (if bt213.2 = true then (if bt211.1 ≤ t210 then (if t210 < bt213.1 then (if (wrap64 (bt213.1 - bt211.1)) = (wrap64 ((Go.bits .and .i64 a1 1099511627775) + 1)) then (some (bt215.1 == 0)) else (some false)) else (some false)) else (some false)) else (some false)) else (some false)) else (some false)))))) = some r := H
  have A3 := Aside0.mk A30
  clear A30
  replace H := Option.bind_eq_some_iff.mp H
  obtain ⟨⟨t211, t212⟩, A40, H⟩ := H
  replace H : ((quant_Next.f t210 (wrap64 ((Go.bits .and .i64 a1 1099511627775) + 1))).bind fun bt213 => ((bellbuoyref01_Mod.f t211 (wrap64 ((Go.bits .and .i64 a1 1099511627775) + 1))).bind fun bt215 => ((bellbuoylaw22_live.f).bind fun t217 => (if t217 = true then (if t212 = true then (if bt213.2 = true then (if t211 ≤ t210 then (if t210 < bt213.1 then (if (wrap64 (bt213.1 - t211)) = (wrap64 ((Go.bits .and .i64 a1 1099511627775) + 1)) then (some (bt215.1 == 0)) else (some false)) else (some false)) else (some false)) else (some false)) else (some false)) else (some false))))) = some r := H
  have A4 := Aside0.mk A40
  clear A40
  replace H := Option.bind_eq_some_iff.mp H
  obtain ⟨⟨t213, t214⟩, A50, H⟩ := H
  replace H : ((bellbuoyref01_Mod.f t211 (wrap64 ((Go.bits .and .i64 a1 1099511627775) + 1))).bind fun bt215 => ((bellbuoylaw22_live.f).bind fun t217 => (if t217 = true then (if t212 = true then (if t214 = true then (if t211 ≤ t210 then (if t210 < t213 then (if (wrap64 (t213 - t211)) = (wrap64 ((Go.bits .and .i64 a1 1099511627775) + 1)) then (some (bt215.1 == 0)) else (some false)) else (some false)) else (some false)) else (some false)) else (some false)) else (some false)))) = some r := H
  have A5 := Aside0.mk A50
  clear A50
  replace H := Option.bind_eq_some_iff.mp H
  obtain ⟨⟨t215, t216⟩, A60, H⟩ := H
  replace H : ((bellbuoylaw22_live.f).bind fun t217 => (if t217 = true then (if t212 = true then (if t214 = true then (if t211 ≤ t210 then (if t210 < t213 then (if (wrap64 (t213 - t211)) = (wrap64 ((Go.bits .and .i64 a1 1099511627775) + 1)) then (some (t215 == 0)) else (some false)) else (some false)) else (some false)) else (some false)) else (some false)) else (some false))) = some r := H
  have A6 := Aside0.mk A60
  clear A60
  replace H := Option.bind_eq_some_iff.mp H
  obtain ⟨t217, A70, H⟩ := H
  replace H : (if t217 = true then (if t212 = true then (if t214 = true then (if t211 ≤ t210 then (if t210 < t213 then (if (wrap64 (t213 - t211)) = (wrap64 ((Go.bits .and .i64 a1 1099511627775) + 1)) then (some (t215 == 0)) else (some false)) else (some false)) else (some false)) else (some false)) else (some false)) else (some false)) = some r := H
  have A7 := Aside0.mk A70
  clear A70
  by_cases c8 : t217 = true
  · subst c8
    have H1 : (if t212 = true then (if t214 = true then (if t211 ≤ t210 then (if t210 < t213 then (if (wrap64 (t213 - t211)) = (wrap64 ((Go.bits .and .i64 a1 1099511627775) + 1)) then (some (t215 == 0)) else (some false)) else (some false)) else (some false)) else (some false)) else (some false)) = some r := by rw [if_pos rfl] at H; exact H
    clear H
    have H := H1
    clear H1
    by_cases c9 : t212 = true
    · subst c9
      have H1 : (if t214 = true then (if t211 ≤ t210 then (if t210 < t213 then (if (wrap64 (t213 - t211)) = (wrap64 ((Go.bits .and .i64 a1 1099511627775) + 1)) then (some (t215 == 0)) else (some false)) else (some false)) else (some false)) else (some false)) = some r := by rw [if_pos rfl] at H; exact H
      clear H
      have H := H1
      clear H1
      by_cases c10 : t214 = true
      · subst c10
        have H1 : (if t211 ≤ t210 then (if t210 < t213 then (if (wrap64 (t213 - t211)) = (wrap64 ((Go.bits .and .i64 a1 1099511627775) + 1)) then (some (t215 == 0)) else (some false)) else (some false)) else (some false)) = some r := by rw [if_pos rfl] at H; exact H
        clear H
        have H := H1
        clear H1
        by_cases c11 : t211 ≤ t210
        · rw [if_pos c11] at H
          have c11b0 : decide (t211 ≤ t210) = true := decide_eq_true c11
          clear c11
          by_cases c12 : t210 < t213
          · rw [if_pos c12] at H
            have c12b0 : decide (t210 < t213) = true := decide_eq_true c12
            clear c12
            by_cases c13 : (wrap64 (t213 - t211)) = (wrap64 ((Go.bits .and .i64 a1 1099511627775) + 1))
            · rw [if_pos c13] at H
              have c13b0 : ((wrap64 (t213 - t211)) == (wrap64 ((Go.bits .and .i64 a1 1099511627775) + 1))) = true := beq_iff_eq.mpr c13
              have c13b1 : ((wrap64 (t213 - t211)) != (wrap64 ((Go.bits .and .i64 a1 1099511627775) + 1))) = false := bne_eq_false_iff_eq.mpr c13
              clear c13
              obtain rfl := Option.some.inj H
              go_enter Try.func7, Try.ntmps7
              go_wp2_with (first | ((with_reducible refine gate_callee (f := 19) rfl ?_); refine goesL_ (some 13) rfl rfl Try.func19 (by kernel_rfl) rfl #[.int .i64 a0] rfl (by (try simp only [List.map_toArray, List.map_cons, List.map_nil]); first | done | rfl | (simp only [List.length_drop, List.length_take]; rfl)) ?_; (with_reducible refine (bellbuoylaw22_near.calls a0 t210 _ A3.out).mono ?_); rintro e w' ⟨rfl, ⟨nd, rfl⟩⟩; refine ⟨_, rfl, ?_⟩) | ((with_reducible refine gate_callee (f := 12) rfl ?_); refine goesL_ (some 20) rfl rfl Try.func12 (by kernel_rfl) rfl #[.int .i64 t210, .int .i64 (wrap64 ((Go.bits .and .i64 a1 1099511627775) + 1))] rfl (by (try simp only [List.map_toArray, List.map_cons, List.map_nil]); first | done | rfl | (simp only [List.length_drop, List.length_take]; rfl)) ?_; (with_reducible refine (quant_Epoch.calls t210 (wrap64 ((Go.bits .and .i64 a1 1099511627775) + 1)) t211 true _ A4.out).mono ?_); rintro e w14 ⟨rfl, hb⟩; refine ⟨_, rfl, ?_⟩; have n0_ := Aside0.mk (below_step (by repeat (first | (with_reducible first | exact HB.out | apply below_alloc | apply pw_below_drewN | apply below_drew1) | exact HB.out)) hb); clear HB; have HB := n0_; clear n0_; (try clear hb); (try clear hb2); (try clear hk); (try clear hi)) | ((with_reducible refine gate_callee (f := 14) rfl ?_); refine goesL_ (some 26) rfl rfl Try.func14 (by kernel_rfl) rfl #[.int .i64 t210, .int .i64 (wrap64 ((Go.bits .and .i64 a1 1099511627775) + 1))] rfl (by (try simp only [List.map_toArray, List.map_cons, List.map_nil]); first | done | rfl | (simp only [List.length_drop, List.length_take]; rfl)) ?_; (with_reducible refine (quant_Next.calls t210 (wrap64 ((Go.bits .and .i64 a1 1099511627775) + 1)) t213 true _ A5.out).mono ?_); rintro e w15 ⟨rfl, hb⟩; refine ⟨_, rfl, ?_⟩; have n0_ := Aside0.mk (below_step (by repeat (first | (with_reducible first | exact HB.out | apply below_alloc | apply pw_below_drewN | apply below_drew1) | exact HB.out)) hb); clear HB; have HB := n0_; clear n0_; (try clear hb); (try clear hb2); (try clear hk); (try clear hi)) | ((with_reducible refine gate_callee (f := 20) rfl ?_); refine goesL_ (some 32) rfl rfl Try.func20 (by kernel_rfl) rfl #[.int .i64 t211, .int .i64 (wrap64 ((Go.bits .and .i64 a1 1099511627775) + 1))] rfl (by (try simp only [List.map_toArray, List.map_cons, List.map_nil]); first | done | rfl | (simp only [List.length_drop, List.length_take]; rfl)) ?_; (with_reducible refine (bellbuoyref01_Mod.calls t211 (wrap64 ((Go.bits .and .i64 a1 1099511627775) + 1)) t215 t216 _ A6.out).mono ?_); rintro e w16 ⟨rfl, hb⟩; refine ⟨_, rfl, ?_⟩; have n0_ := Aside0.mk (below_step (by repeat (first | (with_reducible first | exact HB.out | apply below_alloc | apply pw_below_drewN | apply below_drew1) | exact HB.out)) hb); clear HB; have HB := n0_; clear n0_; (try clear hb); (try clear hb2); (try clear hk); (try clear hi)) | ((with_reducible refine gate_callee (f := 16) rfl ?_); refine goesL_ (some 35) rfl rfl Try.func16 (by kernel_rfl) rfl #[] rfl (by (try simp only [List.map_toArray, List.map_cons, List.map_nil]); first | done | rfl | (simp only [List.length_drop, List.length_take]; rfl)) ?_; (with_reducible refine (bellbuoylaw22_live.calls  true _ A7.out).mono ?_); rintro e w17 ⟨rfl, hb⟩; refine ⟨_, rfl, ?_⟩; have n0_ := Aside0.mk (below_step (by repeat (first | (with_reducible first | exact HB.out | apply below_alloc | apply pw_below_drewN | apply below_drew1) | exact HB.out)) hb); clear HB; have HB := n0_; clear n0_; (try clear hb); (try clear hb2); (try clear hk); (try clear hi)))
              go_ret
              exact ⟨by first | rfl | (simp [errW_none, errW_some] <;> rfl) | (simp [*, errW_none, errW_some] <;> rfl), by repeat (first | (with_reducible first | exact HB.out | apply below_alloc | apply pw_below_drewN | apply below_drew1) | exact HB.out)⟩
            · rw [if_neg c13] at H
              have c13b0 : ((wrap64 (t213 - t211)) == (wrap64 ((Go.bits .and .i64 a1 1099511627775) + 1))) = false := beq_eq_false_iff_ne.mpr c13
              have c13b1 : ((wrap64 (t213 - t211)) != (wrap64 ((Go.bits .and .i64 a1 1099511627775) + 1))) = true := bne_iff_ne.mpr c13
              obtain rfl := Option.some.inj H
              go_enter Try.func7, Try.ntmps7
              go_wp2_with (first | ((with_reducible refine gate_callee (f := 19) rfl ?_); refine goesL_ (some 13) rfl rfl Try.func19 (by kernel_rfl) rfl #[.int .i64 a0] rfl (by (try simp only [List.map_toArray, List.map_cons, List.map_nil]); first | done | rfl | (simp only [List.length_drop, List.length_take]; rfl)) ?_; (with_reducible refine (bellbuoylaw22_near.calls a0 t210 _ A3.out).mono ?_); rintro e w' ⟨rfl, ⟨nd, rfl⟩⟩; refine ⟨_, rfl, ?_⟩) | ((with_reducible refine gate_callee (f := 12) rfl ?_); refine goesL_ (some 20) rfl rfl Try.func12 (by kernel_rfl) rfl #[.int .i64 t210, .int .i64 (wrap64 ((Go.bits .and .i64 a1 1099511627775) + 1))] rfl (by (try simp only [List.map_toArray, List.map_cons, List.map_nil]); first | done | rfl | (simp only [List.length_drop, List.length_take]; rfl)) ?_; (with_reducible refine (quant_Epoch.calls t210 (wrap64 ((Go.bits .and .i64 a1 1099511627775) + 1)) t211 true _ A4.out).mono ?_); rintro e w18 ⟨rfl, hb⟩; refine ⟨_, rfl, ?_⟩; have n0_ := Aside0.mk (below_step (by repeat (first | (with_reducible first | exact HB.out | apply below_alloc | apply pw_below_drewN | apply below_drew1) | exact HB.out)) hb); clear HB; have HB := n0_; clear n0_; (try clear hb); (try clear hb2); (try clear hk); (try clear hi)) | ((with_reducible refine gate_callee (f := 14) rfl ?_); refine goesL_ (some 26) rfl rfl Try.func14 (by kernel_rfl) rfl #[.int .i64 t210, .int .i64 (wrap64 ((Go.bits .and .i64 a1 1099511627775) + 1))] rfl (by (try simp only [List.map_toArray, List.map_cons, List.map_nil]); first | done | rfl | (simp only [List.length_drop, List.length_take]; rfl)) ?_; (with_reducible refine (quant_Next.calls t210 (wrap64 ((Go.bits .and .i64 a1 1099511627775) + 1)) t213 true _ A5.out).mono ?_); rintro e w19 ⟨rfl, hb⟩; refine ⟨_, rfl, ?_⟩; have n0_ := Aside0.mk (below_step (by repeat (first | (with_reducible first | exact HB.out | apply below_alloc | apply pw_below_drewN | apply below_drew1) | exact HB.out)) hb); clear HB; have HB := n0_; clear n0_; (try clear hb); (try clear hb2); (try clear hk); (try clear hi)) | ((with_reducible refine gate_callee (f := 20) rfl ?_); refine goesL_ (some 32) rfl rfl Try.func20 (by kernel_rfl) rfl #[.int .i64 t211, .int .i64 (wrap64 ((Go.bits .and .i64 a1 1099511627775) + 1))] rfl (by (try simp only [List.map_toArray, List.map_cons, List.map_nil]); first | done | rfl | (simp only [List.length_drop, List.length_take]; rfl)) ?_; (with_reducible refine (bellbuoyref01_Mod.calls t211 (wrap64 ((Go.bits .and .i64 a1 1099511627775) + 1)) t215 t216 _ A6.out).mono ?_); rintro e w20 ⟨rfl, hb⟩; refine ⟨_, rfl, ?_⟩; have n0_ := Aside0.mk (below_step (by repeat (first | (with_reducible first | exact HB.out | apply below_alloc | apply pw_below_drewN | apply below_drew1) | exact HB.out)) hb); clear HB; have HB := n0_; clear n0_; (try clear hb); (try clear hb2); (try clear hk); (try clear hi)) | ((with_reducible refine gate_callee (f := 16) rfl ?_); refine goesL_ (some 35) rfl rfl Try.func16 (by kernel_rfl) rfl #[] rfl (by (try simp only [List.map_toArray, List.map_cons, List.map_nil]); first | done | rfl | (simp only [List.length_drop, List.length_take]; rfl)) ?_; (with_reducible refine (bellbuoylaw22_live.calls  true _ A7.out).mono ?_); rintro e w21 ⟨rfl, hb⟩; refine ⟨_, rfl, ?_⟩; have n0_ := Aside0.mk (below_step (by repeat (first | (with_reducible first | exact HB.out | apply below_alloc | apply pw_below_drewN | apply below_drew1) | exact HB.out)) hb); clear HB; have HB := n0_; clear n0_; (try clear hb); (try clear hb2); (try clear hk); (try clear hi)))
              go_ret
              exact ⟨by first | rfl | (simp [errW_none, errW_some] <;> rfl) | (simp [*, errW_none, errW_some] <;> rfl), by repeat (first | (with_reducible first | exact HB.out | apply below_alloc | apply pw_below_drewN | apply below_drew1) | exact HB.out)⟩
          · rw [if_neg c12] at H
            have c12b0 : decide (t210 < t213) = false := decide_eq_false c12
            clear c12
            obtain rfl := Option.some.inj H
            go_enter Try.func7, Try.ntmps7
            go_wp2_with (first | ((with_reducible refine gate_callee (f := 19) rfl ?_); refine goesL_ (some 13) rfl rfl Try.func19 (by kernel_rfl) rfl #[.int .i64 a0] rfl (by (try simp only [List.map_toArray, List.map_cons, List.map_nil]); first | done | rfl | (simp only [List.length_drop, List.length_take]; rfl)) ?_; (with_reducible refine (bellbuoylaw22_near.calls a0 t210 _ A3.out).mono ?_); rintro e w' ⟨rfl, ⟨nd, rfl⟩⟩; refine ⟨_, rfl, ?_⟩) | ((with_reducible refine gate_callee (f := 12) rfl ?_); refine goesL_ (some 20) rfl rfl Try.func12 (by kernel_rfl) rfl #[.int .i64 t210, .int .i64 (wrap64 ((Go.bits .and .i64 a1 1099511627775) + 1))] rfl (by (try simp only [List.map_toArray, List.map_cons, List.map_nil]); first | done | rfl | (simp only [List.length_drop, List.length_take]; rfl)) ?_; (with_reducible refine (quant_Epoch.calls t210 (wrap64 ((Go.bits .and .i64 a1 1099511627775) + 1)) t211 true _ A4.out).mono ?_); rintro e w22 ⟨rfl, hb⟩; refine ⟨_, rfl, ?_⟩; have n0_ := Aside0.mk (below_step (by repeat (first | (with_reducible first | exact HB.out | apply below_alloc | apply pw_below_drewN | apply below_drew1) | exact HB.out)) hb); clear HB; have HB := n0_; clear n0_; (try clear hb); (try clear hb2); (try clear hk); (try clear hi)) | ((with_reducible refine gate_callee (f := 14) rfl ?_); refine goesL_ (some 26) rfl rfl Try.func14 (by kernel_rfl) rfl #[.int .i64 t210, .int .i64 (wrap64 ((Go.bits .and .i64 a1 1099511627775) + 1))] rfl (by (try simp only [List.map_toArray, List.map_cons, List.map_nil]); first | done | rfl | (simp only [List.length_drop, List.length_take]; rfl)) ?_; (with_reducible refine (quant_Next.calls t210 (wrap64 ((Go.bits .and .i64 a1 1099511627775) + 1)) t213 true _ A5.out).mono ?_); rintro e w23 ⟨rfl, hb⟩; refine ⟨_, rfl, ?_⟩; have n0_ := Aside0.mk (below_step (by repeat (first | (with_reducible first | exact HB.out | apply below_alloc | apply pw_below_drewN | apply below_drew1) | exact HB.out)) hb); clear HB; have HB := n0_; clear n0_; (try clear hb); (try clear hb2); (try clear hk); (try clear hi)) | ((with_reducible refine gate_callee (f := 20) rfl ?_); refine goesL_ (some 32) rfl rfl Try.func20 (by kernel_rfl) rfl #[.int .i64 t211, .int .i64 (wrap64 ((Go.bits .and .i64 a1 1099511627775) + 1))] rfl (by (try simp only [List.map_toArray, List.map_cons, List.map_nil]); first | done | rfl | (simp only [List.length_drop, List.length_take]; rfl)) ?_; (with_reducible refine (bellbuoyref01_Mod.calls t211 (wrap64 ((Go.bits .and .i64 a1 1099511627775) + 1)) t215 t216 _ A6.out).mono ?_); rintro e w24 ⟨rfl, hb⟩; refine ⟨_, rfl, ?_⟩; have n0_ := Aside0.mk (below_step (by repeat (first | (with_reducible first | exact HB.out | apply below_alloc | apply pw_below_drewN | apply below_drew1) | exact HB.out)) hb); clear HB; have HB := n0_; clear n0_; (try clear hb); (try clear hb2); (try clear hk); (try clear hi)) | ((with_reducible refine gate_callee (f := 16) rfl ?_); refine goesL_ (some 35) rfl rfl Try.func16 (by kernel_rfl) rfl #[] rfl (by (try simp only [List.map_toArray, List.map_cons, List.map_nil]); first | done | rfl | (simp only [List.length_drop, List.length_take]; rfl)) ?_; (with_reducible refine (bellbuoylaw22_live.calls  true _ A7.out).mono ?_); rintro e w25 ⟨rfl, hb⟩; refine ⟨_, rfl, ?_⟩; have n0_ := Aside0.mk (below_step (by repeat (first | (with_reducible first | exact HB.out | apply below_alloc | apply pw_below_drewN | apply below_drew1) | exact HB.out)) hb); clear HB; have HB := n0_; clear n0_; (try clear hb); (try clear hb2); (try clear hk); (try clear hi)))
            go_ret
            exact ⟨by first | rfl | (simp [errW_none, errW_some] <;> rfl) | (simp [*, errW_none, errW_some] <;> rfl), by repeat (first | (with_reducible first | exact HB.out | apply below_alloc | apply pw_below_drewN | apply below_drew1) | exact HB.out)⟩
        · rw [if_neg c11] at H
          have c11b0 : decide (t211 ≤ t210) = false := decide_eq_false c11
          clear c11
          obtain rfl := Option.some.inj H
          go_enter Try.func7, Try.ntmps7
          go_wp2_with (first | ((with_reducible refine gate_callee (f := 19) rfl ?_); refine goesL_ (some 13) rfl rfl Try.func19 (by kernel_rfl) rfl #[.int .i64 a0] rfl (by (try simp only [List.map_toArray, List.map_cons, List.map_nil]); first | done | rfl | (simp only [List.length_drop, List.length_take]; rfl)) ?_; (with_reducible refine (bellbuoylaw22_near.calls a0 t210 _ A3.out).mono ?_); rintro e w' ⟨rfl, ⟨nd, rfl⟩⟩; refine ⟨_, rfl, ?_⟩) | ((with_reducible refine gate_callee (f := 12) rfl ?_); refine goesL_ (some 20) rfl rfl Try.func12 (by kernel_rfl) rfl #[.int .i64 t210, .int .i64 (wrap64 ((Go.bits .and .i64 a1 1099511627775) + 1))] rfl (by (try simp only [List.map_toArray, List.map_cons, List.map_nil]); first | done | rfl | (simp only [List.length_drop, List.length_take]; rfl)) ?_; (with_reducible refine (quant_Epoch.calls t210 (wrap64 ((Go.bits .and .i64 a1 1099511627775) + 1)) t211 true _ A4.out).mono ?_); rintro e w26 ⟨rfl, hb⟩; refine ⟨_, rfl, ?_⟩; have n0_ := Aside0.mk (below_step (by repeat (first | (with_reducible first | exact HB.out | apply below_alloc | apply pw_below_drewN | apply below_drew1) | exact HB.out)) hb); clear HB; have HB := n0_; clear n0_; (try clear hb); (try clear hb2); (try clear hk); (try clear hi)) | ((with_reducible refine gate_callee (f := 14) rfl ?_); refine goesL_ (some 26) rfl rfl Try.func14 (by kernel_rfl) rfl #[.int .i64 t210, .int .i64 (wrap64 ((Go.bits .and .i64 a1 1099511627775) + 1))] rfl (by (try simp only [List.map_toArray, List.map_cons, List.map_nil]); first | done | rfl | (simp only [List.length_drop, List.length_take]; rfl)) ?_; (with_reducible refine (quant_Next.calls t210 (wrap64 ((Go.bits .and .i64 a1 1099511627775) + 1)) t213 true _ A5.out).mono ?_); rintro e w27 ⟨rfl, hb⟩; refine ⟨_, rfl, ?_⟩; have n0_ := Aside0.mk (below_step (by repeat (first | (with_reducible first | exact HB.out | apply below_alloc | apply pw_below_drewN | apply below_drew1) | exact HB.out)) hb); clear HB; have HB := n0_; clear n0_; (try clear hb); (try clear hb2); (try clear hk); (try clear hi)) | ((with_reducible refine gate_callee (f := 20) rfl ?_); refine goesL_ (some 32) rfl rfl Try.func20 (by kernel_rfl) rfl #[.int .i64 t211, .int .i64 (wrap64 ((Go.bits .and .i64 a1 1099511627775) + 1))] rfl (by (try simp only [List.map_toArray, List.map_cons, List.map_nil]); first | done | rfl | (simp only [List.length_drop, List.length_take]; rfl)) ?_; (with_reducible refine (bellbuoyref01_Mod.calls t211 (wrap64 ((Go.bits .and .i64 a1 1099511627775) + 1)) t215 t216 _ A6.out).mono ?_); rintro e w28 ⟨rfl, hb⟩; refine ⟨_, rfl, ?_⟩; have n0_ := Aside0.mk (below_step (by repeat (first | (with_reducible first | exact HB.out | apply below_alloc | apply pw_below_drewN | apply below_drew1) | exact HB.out)) hb); clear HB; have HB := n0_; clear n0_; (try clear hb); (try clear hb2); (try clear hk); (try clear hi)) | ((with_reducible refine gate_callee (f := 16) rfl ?_); refine goesL_ (some 35) rfl rfl Try.func16 (by kernel_rfl) rfl #[] rfl (by (try simp only [List.map_toArray, List.map_cons, List.map_nil]); first | done | rfl | (simp only [List.length_drop, List.length_take]; rfl)) ?_; (with_reducible refine (bellbuoylaw22_live.calls  true _ A7.out).mono ?_); rintro e w29 ⟨rfl, hb⟩; refine ⟨_, rfl, ?_⟩; have n0_ := Aside0.mk (below_step (by repeat (first | (with_reducible first | exact HB.out | apply below_alloc | apply pw_below_drewN | apply below_drew1) | exact HB.out)) hb); clear HB; have HB := n0_; clear n0_; (try clear hb); (try clear hb2); (try clear hk); (try clear hi)))
          go_ret
          exact ⟨by first | rfl | (simp [errW_none, errW_some] <;> rfl) | (simp [*, errW_none, errW_some] <;> rfl), by repeat (first | (with_reducible first | exact HB.out | apply below_alloc | apply pw_below_drewN | apply below_drew1) | exact HB.out)⟩
      · replace c10 := Bool.eq_false_iff.mpr c10
        subst c10
        have H1 : (some false) = some r := by rw [if_neg (show ¬ (false = true) by decide)] at H; exact H
        clear H
        have H := H1
        clear H1
        obtain rfl := Option.some.inj H
        go_enter Try.func7, Try.ntmps7
        go_wp2_with (first | ((with_reducible refine gate_callee (f := 19) rfl ?_); refine goesL_ (some 13) rfl rfl Try.func19 (by kernel_rfl) rfl #[.int .i64 a0] rfl (by (try simp only [List.map_toArray, List.map_cons, List.map_nil]); first | done | rfl | (simp only [List.length_drop, List.length_take]; rfl)) ?_; (with_reducible refine (bellbuoylaw22_near.calls a0 t210 _ A3.out).mono ?_); rintro e w' ⟨rfl, ⟨nd, rfl⟩⟩; refine ⟨_, rfl, ?_⟩) | ((with_reducible refine gate_callee (f := 12) rfl ?_); refine goesL_ (some 20) rfl rfl Try.func12 (by kernel_rfl) rfl #[.int .i64 t210, .int .i64 (wrap64 ((Go.bits .and .i64 a1 1099511627775) + 1))] rfl (by (try simp only [List.map_toArray, List.map_cons, List.map_nil]); first | done | rfl | (simp only [List.length_drop, List.length_take]; rfl)) ?_; (with_reducible refine (quant_Epoch.calls t210 (wrap64 ((Go.bits .and .i64 a1 1099511627775) + 1)) t211 true _ A4.out).mono ?_); rintro e w30 ⟨rfl, hb⟩; refine ⟨_, rfl, ?_⟩; have n0_ := Aside0.mk (below_step (by repeat (first | (with_reducible first | exact HB.out | apply below_alloc | apply pw_below_drewN | apply below_drew1) | exact HB.out)) hb); clear HB; have HB := n0_; clear n0_; (try clear hb); (try clear hb2); (try clear hk); (try clear hi)) | ((with_reducible refine gate_callee (f := 14) rfl ?_); refine goesL_ (some 26) rfl rfl Try.func14 (by kernel_rfl) rfl #[.int .i64 t210, .int .i64 (wrap64 ((Go.bits .and .i64 a1 1099511627775) + 1))] rfl (by (try simp only [List.map_toArray, List.map_cons, List.map_nil]); first | done | rfl | (simp only [List.length_drop, List.length_take]; rfl)) ?_; (with_reducible refine (quant_Next.calls t210 (wrap64 ((Go.bits .and .i64 a1 1099511627775) + 1)) t213 false _ A5.out).mono ?_); rintro e w31 ⟨rfl, hb⟩; refine ⟨_, rfl, ?_⟩; have n0_ := Aside0.mk (below_step (by repeat (first | (with_reducible first | exact HB.out | apply below_alloc | apply pw_below_drewN | apply below_drew1) | exact HB.out)) hb); clear HB; have HB := n0_; clear n0_; (try clear hb); (try clear hb2); (try clear hk); (try clear hi)) | ((with_reducible refine gate_callee (f := 20) rfl ?_); refine goesL_ (some 32) rfl rfl Try.func20 (by kernel_rfl) rfl #[.int .i64 t211, .int .i64 (wrap64 ((Go.bits .and .i64 a1 1099511627775) + 1))] rfl (by (try simp only [List.map_toArray, List.map_cons, List.map_nil]); first | done | rfl | (simp only [List.length_drop, List.length_take]; rfl)) ?_; (with_reducible refine (bellbuoyref01_Mod.calls t211 (wrap64 ((Go.bits .and .i64 a1 1099511627775) + 1)) t215 t216 _ A6.out).mono ?_); rintro e w32 ⟨rfl, hb⟩; refine ⟨_, rfl, ?_⟩; have n0_ := Aside0.mk (below_step (by repeat (first | (with_reducible first | exact HB.out | apply below_alloc | apply pw_below_drewN | apply below_drew1) | exact HB.out)) hb); clear HB; have HB := n0_; clear n0_; (try clear hb); (try clear hb2); (try clear hk); (try clear hi)) | ((with_reducible refine gate_callee (f := 16) rfl ?_); refine goesL_ (some 35) rfl rfl Try.func16 (by kernel_rfl) rfl #[] rfl (by (try simp only [List.map_toArray, List.map_cons, List.map_nil]); first | done | rfl | (simp only [List.length_drop, List.length_take]; rfl)) ?_; (with_reducible refine (bellbuoylaw22_live.calls  true _ A7.out).mono ?_); rintro e w33 ⟨rfl, hb⟩; refine ⟨_, rfl, ?_⟩; have n0_ := Aside0.mk (below_step (by repeat (first | (with_reducible first | exact HB.out | apply below_alloc | apply pw_below_drewN | apply below_drew1) | exact HB.out)) hb); clear HB; have HB := n0_; clear n0_; (try clear hb); (try clear hb2); (try clear hk); (try clear hi)))
        go_ret
        exact ⟨by first | rfl | (simp [errW_none, errW_some] <;> rfl) | (simp [*, errW_none, errW_some] <;> rfl), by repeat (first | (with_reducible first | exact HB.out | apply below_alloc | apply pw_below_drewN | apply below_drew1) | exact HB.out)⟩
    · replace c9 := Bool.eq_false_iff.mpr c9
      subst c9
      have H1 : (some false) = some r := by rw [if_neg (show ¬ (false = true) by decide)] at H; exact H
      clear H
      have H := H1
      clear H1
      obtain rfl := Option.some.inj H
      go_enter Try.func7, Try.ntmps7
      go_wp2_with (first | ((with_reducible refine gate_callee (f := 19) rfl ?_); refine goesL_ (some 13) rfl rfl Try.func19 (by kernel_rfl) rfl #[.int .i64 a0] rfl (by (try simp only [List.map_toArray, List.map_cons, List.map_nil]); first | done | rfl | (simp only [List.length_drop, List.length_take]; rfl)) ?_; (with_reducible refine (bellbuoylaw22_near.calls a0 t210 _ A3.out).mono ?_); rintro e w' ⟨rfl, ⟨nd, rfl⟩⟩; refine ⟨_, rfl, ?_⟩) | ((with_reducible refine gate_callee (f := 12) rfl ?_); refine goesL_ (some 20) rfl rfl Try.func12 (by kernel_rfl) rfl #[.int .i64 t210, .int .i64 (wrap64 ((Go.bits .and .i64 a1 1099511627775) + 1))] rfl (by (try simp only [List.map_toArray, List.map_cons, List.map_nil]); first | done | rfl | (simp only [List.length_drop, List.length_take]; rfl)) ?_; (with_reducible refine (quant_Epoch.calls t210 (wrap64 ((Go.bits .and .i64 a1 1099511627775) + 1)) t211 false _ A4.out).mono ?_); rintro e w34 ⟨rfl, hb⟩; refine ⟨_, rfl, ?_⟩; have n0_ := Aside0.mk (below_step (by repeat (first | (with_reducible first | exact HB.out | apply below_alloc | apply pw_below_drewN | apply below_drew1) | exact HB.out)) hb); clear HB; have HB := n0_; clear n0_; (try clear hb); (try clear hb2); (try clear hk); (try clear hi)) | ((with_reducible refine gate_callee (f := 14) rfl ?_); refine goesL_ (some 26) rfl rfl Try.func14 (by kernel_rfl) rfl #[.int .i64 t210, .int .i64 (wrap64 ((Go.bits .and .i64 a1 1099511627775) + 1))] rfl (by (try simp only [List.map_toArray, List.map_cons, List.map_nil]); first | done | rfl | (simp only [List.length_drop, List.length_take]; rfl)) ?_; (with_reducible refine (quant_Next.calls t210 (wrap64 ((Go.bits .and .i64 a1 1099511627775) + 1)) t213 t214 _ A5.out).mono ?_); rintro e w35 ⟨rfl, hb⟩; refine ⟨_, rfl, ?_⟩; have n0_ := Aside0.mk (below_step (by repeat (first | (with_reducible first | exact HB.out | apply below_alloc | apply pw_below_drewN | apply below_drew1) | exact HB.out)) hb); clear HB; have HB := n0_; clear n0_; (try clear hb); (try clear hb2); (try clear hk); (try clear hi)) | ((with_reducible refine gate_callee (f := 20) rfl ?_); refine goesL_ (some 32) rfl rfl Try.func20 (by kernel_rfl) rfl #[.int .i64 t211, .int .i64 (wrap64 ((Go.bits .and .i64 a1 1099511627775) + 1))] rfl (by (try simp only [List.map_toArray, List.map_cons, List.map_nil]); first | done | rfl | (simp only [List.length_drop, List.length_take]; rfl)) ?_; (with_reducible refine (bellbuoyref01_Mod.calls t211 (wrap64 ((Go.bits .and .i64 a1 1099511627775) + 1)) t215 t216 _ A6.out).mono ?_); rintro e w36 ⟨rfl, hb⟩; refine ⟨_, rfl, ?_⟩; have n0_ := Aside0.mk (below_step (by repeat (first | (with_reducible first | exact HB.out | apply below_alloc | apply pw_below_drewN | apply below_drew1) | exact HB.out)) hb); clear HB; have HB := n0_; clear n0_; (try clear hb); (try clear hb2); (try clear hk); (try clear hi)) | ((with_reducible refine gate_callee (f := 16) rfl ?_); refine goesL_ (some 35) rfl rfl Try.func16 (by kernel_rfl) rfl #[] rfl (by (try simp only [List.map_toArray, List.map_cons, List.map_nil]); first | done | rfl | (simp only [List.length_drop, List.length_take]; rfl)) ?_; (with_reducible refine (bellbuoylaw22_live.calls  true _ A7.out).mono ?_); rintro e w37 ⟨rfl, hb⟩; refine ⟨_, rfl, ?_⟩; have n0_ := Aside0.mk (below_step (by repeat (first | (with_reducible first | exact HB.out | apply below_alloc | apply pw_below_drewN | apply below_drew1) | exact HB.out)) hb); clear HB; have HB := n0_; clear n0_; (try clear hb); (try clear hb2); (try clear hk); (try clear hi)))
      go_ret
      exact ⟨by first | rfl | (simp [errW_none, errW_some] <;> rfl) | (simp [*, errW_none, errW_some] <;> rfl), by repeat (first | (with_reducible first | exact HB.out | apply below_alloc | apply pw_below_drewN | apply below_drew1) | exact HB.out)⟩
  · replace c8 := Bool.eq_false_iff.mpr c8
    subst c8
    have H1 : (some false) = some r := by rw [if_neg (show ¬ (false = true) by decide)] at H; exact H
    clear H
    have H := H1
    clear H1
    obtain rfl := Option.some.inj H
    go_enter Try.func7, Try.ntmps7
    go_wp2_with (first | ((with_reducible refine gate_callee (f := 19) rfl ?_); refine goesL_ (some 13) rfl rfl Try.func19 (by kernel_rfl) rfl #[.int .i64 a0] rfl (by (try simp only [List.map_toArray, List.map_cons, List.map_nil]); first | done | rfl | (simp only [List.length_drop, List.length_take]; rfl)) ?_; (with_reducible refine (bellbuoylaw22_near.calls a0 t210 _ A3.out).mono ?_); rintro e w' ⟨rfl, ⟨nd, rfl⟩⟩; refine ⟨_, rfl, ?_⟩) | ((with_reducible refine gate_callee (f := 12) rfl ?_); refine goesL_ (some 20) rfl rfl Try.func12 (by kernel_rfl) rfl #[.int .i64 t210, .int .i64 (wrap64 ((Go.bits .and .i64 a1 1099511627775) + 1))] rfl (by (try simp only [List.map_toArray, List.map_cons, List.map_nil]); first | done | rfl | (simp only [List.length_drop, List.length_take]; rfl)) ?_; (with_reducible refine (quant_Epoch.calls t210 (wrap64 ((Go.bits .and .i64 a1 1099511627775) + 1)) t211 t212 _ A4.out).mono ?_); rintro e w38 ⟨rfl, hb⟩; refine ⟨_, rfl, ?_⟩; have n0_ := Aside0.mk (below_step (by repeat (first | (with_reducible first | exact HB.out | apply below_alloc | apply pw_below_drewN | apply below_drew1) | exact HB.out)) hb); clear HB; have HB := n0_; clear n0_; (try clear hb); (try clear hb2); (try clear hk); (try clear hi)) | ((with_reducible refine gate_callee (f := 14) rfl ?_); refine goesL_ (some 26) rfl rfl Try.func14 (by kernel_rfl) rfl #[.int .i64 t210, .int .i64 (wrap64 ((Go.bits .and .i64 a1 1099511627775) + 1))] rfl (by (try simp only [List.map_toArray, List.map_cons, List.map_nil]); first | done | rfl | (simp only [List.length_drop, List.length_take]; rfl)) ?_; (with_reducible refine (quant_Next.calls t210 (wrap64 ((Go.bits .and .i64 a1 1099511627775) + 1)) t213 t214 _ A5.out).mono ?_); rintro e w39 ⟨rfl, hb⟩; refine ⟨_, rfl, ?_⟩; have n0_ := Aside0.mk (below_step (by repeat (first | (with_reducible first | exact HB.out | apply below_alloc | apply pw_below_drewN | apply below_drew1) | exact HB.out)) hb); clear HB; have HB := n0_; clear n0_; (try clear hb); (try clear hb2); (try clear hk); (try clear hi)) | ((with_reducible refine gate_callee (f := 20) rfl ?_); refine goesL_ (some 32) rfl rfl Try.func20 (by kernel_rfl) rfl #[.int .i64 t211, .int .i64 (wrap64 ((Go.bits .and .i64 a1 1099511627775) + 1))] rfl (by (try simp only [List.map_toArray, List.map_cons, List.map_nil]); first | done | rfl | (simp only [List.length_drop, List.length_take]; rfl)) ?_; (with_reducible refine (bellbuoyref01_Mod.calls t211 (wrap64 ((Go.bits .and .i64 a1 1099511627775) + 1)) t215 t216 _ A6.out).mono ?_); rintro e w40 ⟨rfl, hb⟩; refine ⟨_, rfl, ?_⟩; have n0_ := Aside0.mk (below_step (by repeat (first | (with_reducible first | exact HB.out | apply below_alloc | apply pw_below_drewN | apply below_drew1) | exact HB.out)) hb); clear HB; have HB := n0_; clear n0_; (try clear hb); (try clear hb2); (try clear hk); (try clear hi)) | ((with_reducible refine gate_callee (f := 16) rfl ?_); refine goesL_ (some 35) rfl rfl Try.func16 (by kernel_rfl) rfl #[] rfl (by (try simp only [List.map_toArray, List.map_cons, List.map_nil]); first | done | rfl | (simp only [List.length_drop, List.length_take]; rfl)) ?_; (with_reducible refine (bellbuoylaw22_live.calls  false _ A7.out).mono ?_); rintro e w41 ⟨rfl, hb⟩; refine ⟨_, rfl, ?_⟩; have n0_ := Aside0.mk (below_step (by repeat (first | (with_reducible first | exact HB.out | apply below_alloc | apply pw_below_drewN | apply below_drew1) | exact HB.out)) hb); clear HB; have HB := n0_; clear n0_; (try clear hb); (try clear hb2); (try clear hk); (try clear hi)))
    go_ret
    exact ⟨by first | rfl | (simp [errW_none, errW_some] <;> rfl) | (simp [*, errW_none, errW_some] <;> rfl), by repeat (first | (with_reducible first | exact HB.out | apply below_alloc | apply pw_below_drewN | apply below_drew1) | exact HB.out)⟩

/-- THE ONE PURE STATEMENT of bellbuoylaw22_QuantEpochs: yours. -/
def bellbuoylaw22_QuantEpochs.Pure : Prop := ∀ (a0 : Int) (a1 : Int), (Lit.int .i64 a0).wf = true → (Lit.int .i64 a1).wf = true → bellbuoylaw22_QuantEpochs.f a0 a1 = some true
theorem bellbuoylaw22_QuantEpochs.walk (P : bellbuoylaw22_QuantEpochs.Pure) (a0 : Int) (a1 : Int) (w : World) (w0 : (Lit.int .i64 a0).wf = true) (w1 : (Lit.int .i64 a1).wf = true) :
    Calls Try.prog 7 #[.int .i64 a0, .int .i64 a1] w fun e w' => e = .returned (.bool true) ∧ Below w.heap.size w w' := by
  have h := P a0 a1 w0 w1
  refine (bellbuoylaw22_QuantEpochs.calls a0 a1 true w h).mono ?_
  rintro e w' ⟨rfl, hd⟩
  exact ⟨rfl, hd⟩

end Go.Proofs.Ytbjepiglagnpjaa.P
