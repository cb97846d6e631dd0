/- What is proved here: each Go function that this text names answers as the Lean function of its name says, whenever that one answers; and a law's row follows from its plain statement. Laid by a program of the session over the kit's print. -/
import Derived.Test.YtcimnghmkhdolaaPx0
import Derived.Test.YtcimnghmkhdolaaPx3
namespace Go.Proofs.Ytcimnghmkhdolaa.P
open Go.RowKit Go.Proofs.YtcimnghmkhdolaaW.PrintWords Go.Proofs.YtcimnghmkhdolaaW.PrintLast Go.Proofs.YtcimnghmkhdolaaW.PrintMore
attribute [local go_sem] max2_int min2_int max_two min_two max_three min_three max_four min_four   -- for this text's walks alone
set_option linter.unusedVariables false
set_option linter.unusedSimpArgs false

/-! ### strand_Of: function 24 -/
mutual
def strand_Of.j0 : Nat → Int → Int → Bool → Option (List Int)
  | 0, _, _, _ => none
  | k + 1, x0, x1, x12 => if x12 = true then (some ([] : List Int)) else (if 0 ≤ x1 then (if (x1 : Int).toNat ≤ 281474976710656 then ((some (List.replicate (x1 : Int).toNat 0 : List Int)).bind fun y112 => (strand_Of.l0 k x0 x1 y112 (y112.length : Int) 0)) else (none)) else (none))
def strand_Of.l0 : Nat → Int → Int → List Int → Int → Int → Option (List Int)
  | 0, _, _, _, _, _ => none
  | k + 1, x0, x1, x5, x16, x17 => if x17 < x16 then (if 0 ≤ (wrap64 ((wrap64 (x1 - 1)) - x17)) then (if (wrap64 ((wrap64 (x1 - 1)) - x17)) < (x5.length : Int) then (strand_Of.l0 k (x0 / 2) x1 (x5.set ((wrap64 ((wrap64 (x1 - 1)) - x17)) : Int).toNat ((Go.bits .and .u64 x0 1) % 256)) x16 (wrap64 (x17 + 1))) else (none)) else (none)) else (some x5)
end
def strand_Of.f (k : Nat) (a0 : Int) (a1 : Int) : Option (List Int) := if a1 < 1 then (strand_Of.j0 k a0 a1 true) else (strand_Of.j0 k a0 a1 (decide (a1 > 64)))
theorem strand_Of.mono_l : ∀ k, (∀ y0 y1 y2, LeO (strand_Of.j0 k y0 y1 y2) (strand_Of.j0 (k + 1) y0 y1 y2)) ∧ (∀ y0 y1 y2 y3 y4, LeO (strand_Of.l0 k y0 y1 y2 y3 y4) (strand_Of.l0 (k + 1) y0 y1 y2 y3 y4))
  | 0 => ⟨fun _ _ _ r h => by simp [strand_Of.j0] at h, fun _ _ _ _ _ r h => by simp [strand_Of.l0] at h⟩
  | k + 1 => by
    obtain ⟨ih0, ih1⟩ := strand_Of.mono_l k
    refine ⟨?_, ?_⟩
    · intro y0 y1 y2
      unfold strand_Of.j0
      repeat' first
      | (with_reducible exact ih0 _ _ _)
      | (with_reducible exact ih1 _ _ _ _ _)
      | (with_reducible exact LeO.refl _)
      | (with_reducible exact LeO.none _)
      | (with_reducible refine LeO.ite ?_ ?_)
      | (with_reducible refine LeO.bind ?_ (fun _ => ?_))
      | exact ih0 _ _ _
      | exact ih1 _ _ _ _ _
      | exact LeO.none _
      | refine LeO.ite ?_ ?_
      | refine LeO.bind ?_ (fun _ => ?_)
    · intro y0 y1 y2 y3 y4
      unfold strand_Of.l0
      repeat' first
      | (with_reducible exact ih0 _ _ _)
      | (with_reducible exact ih1 _ _ _ _ _)
      | (with_reducible exact LeO.refl _)
      | (with_reducible exact LeO.none _)
      | (with_reducible refine LeO.ite ?_ ?_)
      | (with_reducible refine LeO.bind ?_ (fun _ => ?_))
      | exact ih0 _ _ _
      | exact ih1 _ _ _ _ _
      | exact LeO.none _
      | refine LeO.ite ?_ ?_
      | refine LeO.bind ?_ (fun _ => ?_)
theorem strand_Of.mono : ∀ a0 a1 k, LeO (strand_Of.f k a0 a1) (strand_Of.f (k + 1) a0 a1) := by
  intro a0 a1 k
  obtain ⟨ih0, ih1⟩ := strand_Of.mono_l k
  unfold strand_Of.f
  repeat' first
      | (with_reducible exact ih0 _ _ _)
      | (with_reducible exact ih1 _ _ _ _ _)
      | (with_reducible exact LeO.refl _)
      | (with_reducible exact LeO.none _)
      | (with_reducible refine LeO.ite ?_ ?_)
      | (with_reducible refine LeO.bind ?_ (fun _ => ?_))
      | exact ih0 _ _ _
      | exact ih1 _ _ _ _ _
      | exact LeO.none _
      | refine LeO.ite ?_ ?_
      | refine LeO.bind ?_ (fun _ => ?_)
set_option maxHeartbeats 8000000 in
set_option maxRecDepth 100000 in
theorem strand_Of.calls (k : Nat) (a0 : Int) (a1 : Int) (r : List Int) (w : World) (h : strand_Of.f k a0 a1 = some r) :
    Calls Try.prog 24 #[.int .u64 a0, .int .i64 a1] w fun e w' => ∃ v0_ : Value, e = .returned (v0_) ∧ Kd.R (Kd.int .u8) 5 w' w.heap.size (fun _ => True) v0_ r ∧ Below w.heap.size w w' := by
  have HB := Aside0.mk (Below.refl w.heap.size w)
  have H : (if a1 < 1 then (strand_Of.j0 k a0 a1 true) else (strand_Of.j0 k a0 a1 (decide (a1 > 64)))) = some r := h
  clear h
  have HC3 := Aside0.mk H
  clear H
  go_enter Try.func24, Try.ntmps24
  go_upto_region 1 with (fail)
  go_cut [12] (fun v12 wc => ∃ (kq : Nat) (x12_2 : Bool), v12 = .bool x12_2 ∧ Aside0 (strand_Of.j0 kq a0 a1 x12_2 = some r) ∧ Aside0 (kq ≤ k) ∧ Aside0 (Below w.heap.size w wc))
  case first =>
    have H := HC3.out
    clear HC3
    by_cases c4 : a1 < 1
    · rw [if_pos c4] at H
      have c4b0 : decide (a1 < 1) = true := decide_eq_true c4
      clear c4
      (first | rw [c4b0] | (simp only [i64_w, i32_w]; rw [c4b0]) | skip)
      have H' := Aside0.mk H
      clear H
      go_wp2
      go_meet
      case rel => exact ⟨_, (true), (by first | rfl | (simp; done) | (simp [*]; done)), H', ⟨by first | omega | exact Nat.le_refl _⟩, ⟨by repeat (first | (with_reducible first | exact HB.out | apply below_alloc | apply pw_below_drewN | apply below_drew1) | exact HB.out)⟩⟩
    · rw [if_neg c4] at H
      have c4b0 : decide (a1 < 1) = false := decide_eq_false c4
      clear c4
      (first | rw [c4b0] | (simp only [i64_w, i32_w]; rw [c4b0]) | skip)
      have H' := Aside0.mk H
      clear H
      go_wp2
      go_meet
      case rel => exact ⟨_, (decide (a1 > 64)), (by first | rfl | (simp; done) | (simp [*]; done)), H', ⟨by first | omega | exact Nat.le_refl _⟩, ⟨by repeat (first | (with_reducible first | exact HB.out | apply below_alloc | apply pw_below_drewN | apply below_drew1) | exact HB.out)⟩⟩
  case rest =>
    clear HC3
    try clear c2
    try clear p2
    try clear c4
    try clear c4b0
    obtain ⟨kq, x12_2, rfl, HA, HJ2, HB⟩ := hcut
    cases kq with
    | zero => exact absurd HA.out (by simp [strand_Of.j0])
    | succ kj2 =>
      have H := HA.out
      clear HA
      simp only [strand_Of.j0] at H
      by_cases c5 : x12_2 = true
      · subst c5
        have H1 : (some ([] : List Int)) = some r := by rw [if_pos rfl] at H; exact H
        clear H
        have H := H1
        clear H1
        obtain rfl := Option.some.inj H
        go_wp2
        go_ret
        exact ⟨_, by first | rfl | (simp [errW_none, errW_some] <;> rfl) | (simp [*, errW_none, errW_some] <;> rfl), by first | exact Kd.R_nil _ _ _ _ _ | exact Kd.N_nil _ _ _ _ _ | exact Kd.V_nil _ _ _ _ _ | exact Kd.Q_nil _ _ _ _ _ | exact Kd.S_nil _ _ _ _ _, by repeat (first | (with_reducible first | exact HB.out | apply below_alloc | apply pw_below_drewN | apply below_drew1) | exact HB.out)⟩
      · replace c5 := Bool.eq_false_iff.mpr c5
        subst c5
        have H1 : (if 0 ≤ a1 then (if (a1 : Int).toNat ≤ 281474976710656 then ((some (List.replicate (a1 : Int).toNat 0 : List Int)).bind fun y112 => (strand_Of.l0 kj2 a0 a1 y112 (y112.length : Int) 0)) else (none)) else (none)) = some r := by rw [if_neg (show ¬ (false = true) by decide)] at H; exact H
        clear H
        have H := H1
        clear H1
        by_cases c6 : 0 ≤ a1
        · rw [if_pos c6] at H
          have c6b0 := eq_true c6
          have c6b1 : decide (0 ≤ a1) = true := decide_eq_true c6
          clear c6
          by_cases c7 : (a1 : Int).toNat ≤ 281474976710656
          · rw [if_pos c7] at H
            have c7b0 := eq_true c7
            have c7b1 : decide ((a1 : Int).toNat ≤ 281474976710656) = true := decide_eq_true c7
            clear c7
            obtain ⟨y112, hy112⟩ : ∃ y_ : List Int, y_ = (List.replicate (a1 : Int).toNat 0) := ⟨_, rfl⟩
            replace H : (strand_Of.l0 kj2 a0 a1 y112 (y112.length : Int) 0) = some r := by first | (rw [hy112]; with_reducible exact H) | (have H2_ := (Option.bind_some _ _).symm.trans H; rw [hy112]; with_reducible exact H2_) | (have H2_ := (Option.bind_some _ _).symm.trans H; with_reducible exact H2_) | with_reducible exact H | (rw [hy112]; exact H) | exact H
            have Ny112 := Aside0.mk hy112
            clear hy112
            have H' := Aside0.mk H
            clear H
            go_wp2_with (first | ((with_reducible refine gate_dst (N := 14) rfl ?_); refine Kd.R_make (Kd.int .u8) _ 5 rfl (N := 14) rfl 32 _ _ rfl a1 rfl rfl Try.underlying32 (.int .u8 0) 1 info5 rfl (by decide) (by omega) 0 (ok := fun _ => True) (okp := fun _ => True) rfl (fun _ hk => hk) trivial (of_decide_eq_true (by first | (with_reducible assumption) | assumption)) (Nat.le_trans (Nat.mul_le_mul_right _ (of_decide_eq_true (by first | (with_reducible assumption) | assumption) : a1.toNat ≤ 281474976710656)) (by omega)) (Below.refl _ _) (Nat.le_refl _) ?_; intro v113 w8 ho9 hb hg_ hnew_; clear hg_ hnew_; (first | rw [← Ny112.out] at ho9 | (simp only [Int.reduceToNat] at ho9; rw [← Ny112.out] at ho9)); have n0_ := Aside0.mk (Kd.R_lower ho9 (below_size (by repeat (first | (with_reducible first | exact HB.out | apply below_alloc | apply pw_below_drewN | apply below_drew1) | exact HB.out)))); have n1_ := Aside0.mk (below_step (by repeat (first | (with_reducible first | exact HB.out | apply below_alloc | apply pw_below_drewN | apply below_drew1) | exact HB.out)) hb); clear HB; have HO114 := n0_; have HB := n1_; clear n0_ n1_; clear hb ho9; obtain ⟨Ao10, co10, eo10⟩ := Kd.R_slice HO114.out; subst eo10))
            go_loopg [0, 17] kj2 (fun kq v0 v17 w' => ∃ (x0_2 : Int) (x5_2 : List Int) (x17_2 : Int), v0 = .int .u64 x0_2 ∧ v17 = .int .i64 x17_2 ∧ Aside0 (strand_Of.l0 kq x0_2 a1 x5_2 (y112.length : Int) x17_2 = some r) ∧ Aside0 (kq ≤ kj2) ∧ Aside0 (Kd.R (Kd.int .u8) 5 w' w.heap.size (fun _ => True) (.slice Ao10 y112.length co10) x5_2) ∧ Aside0 (Below w.heap.size w w'))
            case atStart => exact ⟨(a0), (y112), (0), (by first | rfl | (simp; done) | (simp [*]; done)), (by first | rfl | (simp; done) | (simp [*]; done)), H', ⟨Nat.le_refl _⟩, ⟨by (with_reducible repeat (first | apply Kd.R_alloc | apply Kd.R_drewN | apply Kd.R_drew)); exact HO114.out⟩, ⟨by repeat (first | (with_reducible first | exact HB.out | apply below_alloc | apply pw_below_drewN | apply below_drew1) | exact HB.out)⟩⟩
            case round =>
              clear H'
              try clear c2
              try clear p2
              try clear c4
              try clear c4b0
              try clear c5
              try clear c6
              try clear c6b0
              try clear c6b1
              try clear c7
              try clear c7b0
              try clear c7b1
              try clear p2
              obtain ⟨x0_2, x5_2, x17_2, rfl, rfl, HA, HK2, HO_5, HB⟩ := hrel
              have hl5_2 := (Kd.R_reads' HO_5.out).1
              rw [hl5_2] at HO_5
              (try simp only [hl5_2])
              cases gk with
              | zero => exact absurd HA.out (by simp [strand_Of.l0])
              | succ k2 =>
                have H := HA.out
                clear HA
                simp only [strand_Of.l0] at H
                by_cases c11 : x17_2 < (y112.length : Int)
                · rw [if_pos c11] at H
                  have c11b0 : decide (x17_2 < (y112.length : Int)) = true := decide_eq_true c11
                  try have c11b9 : decide (x17_2 < (x5_2.length : Int)) = true := by rw [← hl5_2]; exact decide_eq_true c11
                  clear c11
                  obtain ⟨ji12, hji12⟩ : ∃ j_ : Int, (wrap64 ((wrap64 (a1 - 1)) - x17_2)) = j_ := ⟨_, rfl⟩
                  replace H : (if 0 ≤ (ji12) then (if (ji12) < (x5_2.length : Int) then (strand_Of.l0 k2 (x0_2 / 2) a1 (x5_2.set ((ji12) : Int).toNat ((Go.bits .and .u64 x0_2 1) % 256)) (y112.length : Int) (wrap64 (x17_2 + 1))) else (none)) else (none)) = some r := by first | (rw [hji12] at H; exact H) | (simp only [hji12] at H ⊢; exact H)
                  have hji12w : (IntKind.i64.wrap ((wrap64 (a1 - 1)) - x17_2)) = ji12 := (i64_w _).trans hji12
                  by_cases c13 : 0 ≤ (ji12)
                  · rw [if_pos c13] at H
                    have c13b0 : decide (0 ≤ (ji12)) = true := decide_eq_true c13
                    clear c13
                    by_cases c14 : (ji12) < (x5_2.length : Int)
                    · rw [if_pos c14] at H
                      have c14b0 : decide ((ji12) < (x5_2.length : Int)) = true := decide_eq_true c14
                      clear c14
                      obtain ⟨y115, hy115⟩ : ∃ y_ : List Int, y_ = (x5_2.set ((ji12) : Int).toNat ((Go.bits .and .u64 x0_2 1) % 256)) := ⟨_, rfl⟩
                      replace H : (strand_Of.l0 k2 (x0_2 / 2) a1 y115 (y112.length : Int) (wrap64 (x17_2 + 1))) = some r := by first | (rw [hy115]; with_reducible exact H) | (have H2_ := (Option.bind_some _ _).symm.trans H; rw [hy115]; with_reducible exact H2_) | (have H2_ := (Option.bind_some _ _).symm.trans H; with_reducible exact H2_) | with_reducible exact H | (rw [hy115]; exact H) | exact H
                      have Ny115 := Aside0.mk hy115
                      clear hy115
                      have H' := Aside0.mk H
                      clear H
                      have p15 : 0 ≤ ((ji12) : Int) := of_decide_eq_true (by first | (with_reducible assumption) | assumption)
                      have q15 : ((ji12) : Int) < ((x5_2.length : Int) : Int) := of_decide_eq_true (by first | (with_reducible assumption) | assumption)
                      obtain ⟨go15, co15, eo15, gb15, gl15, cl15, HG15⟩ := Kd.R_form HO_5.out (by omega)
                      (first | cases eo15 | (injection eo15 with ea_ en_ ec_; (first | subst ea_ | (injection ea_ with ea_; subst ea_)); subst ec_; clear en_))
                      have GB15 := Aside0.mk gb15
                      have GG15 := Aside0.mk HG15
                      clear gb15 gl15 HG15
                      obtain ⟨hx15_0, hf15_0⟩ := Kd.R_celln 0 HO_5.out ((ji12) : Int) p15 q15
                      replace p15 := eq_true p15
                      replace q15 := eq_true q15
                      have HP16 := Kd.R_putg HO_5.out ((ji12) : Int) ((Go.bits .and .u64 x0_2 1) % 256)
                      go_wp2_with (first | ((with_reducible refine gate_store (t := 5) (p := 28) rfl ?_); refine store_event (t := 5) (p := 28) (v := ?vo_w17) (w1 := (wr.setCell ⟨go15, ((ji12) : Int).toNat, none⟩ (.int .u8 ((Go.bits .and .u64 x0_2 1) % 256)))) ?hg ?ho ?hn ?hr ?_; (case ho => rfl); (case hg => rfl); (case hn => rfl); (case hr => first | (go_simp; done) | (go_simp; rfl)); intro w17 hw; have hg : wr.grownBy w17 (some go15) := (by rw [hw]; exact HP16.2); have hp_ : Kd.R (Kd.int .u8) 5 w17 w.heap.size (fun _ => True) (.slice (some ⟨go15, 0, none⟩) x5_2.length co10) y115 := (by rw [hw, Ny115.out]; exact HP16.1); clear HP16; have n0_ := Aside0.mk (hp_); have n1_ := Aside0.mk ((by rw [hw]; exact below_set (HB.out) GB15.out : Below w.heap.size w w17)); clear HO_5; clear HB; have HO_5 := n0_; have HB := n1_; clear n0_ n1_; clear hg hw hp_))
                      (try simp only [← hl5_2])
                      go_roundg k2
                      case measure => have := HJ2.out; have := HK2.out; omega
                      case rel => exact ⟨(x0_2 / 2), (y115), (wrap64 (x17_2 + 1)), (by first | rfl | (simp; done) | (simp [*]; done)), (by first | rfl | (simp; done) | (simp [*]; done)), H', ⟨by have := HJ2.out; have := HK2.out; omega⟩, ⟨by (try simp only [hl5_2]); (with_reducible repeat (first | apply Kd.R_alloc | apply Kd.R_drewN | apply Kd.R_drew)); exact HO_5.out⟩, ⟨by repeat (first | (with_reducible first | exact HB.out | apply below_alloc | apply pw_below_drewN | apply below_drew1) | exact HB.out)⟩⟩
                    · rw [if_neg c14] at H
                      exact absurd H (by simp)
                  · rw [if_neg c13] at H
                    exact absurd H (by simp)
                · rw [if_neg c11] at H
                  have c11b0 : decide (x17_2 < (y112.length : Int)) = false := decide_eq_false c11
                  try have c11b9 : decide (x17_2 < (x5_2.length : Int)) = false := by rw [← hl5_2]; exact decide_eq_false c11
                  clear c11
                  obtain rfl := Option.some.inj H
                  go_wp2
                  go_ret
                  exact ⟨_, by first | rfl | (simp [errW_none, errW_some] <;> rfl) | (simp [*, errW_none, errW_some] <;> rfl), by (with_reducible repeat (first | apply Kd.R_alloc | apply Kd.R_drewN | apply Kd.R_drew)); exact HO_5.out, by repeat (first | (with_reducible first | exact HB.out | apply below_alloc | apply pw_below_drewN | apply below_drew1) | exact HB.out)⟩
          · rw [if_neg c7] at H
            exact absurd H (by simp)
        · rw [if_neg c6] at H
          exact absurd H (by simp)

/-! ### ident_Bits: function 12 -/
def ident_Bits.f (k : Nat) (a0_0 : Bool) (a0_1 : Int) (a1 : Bool) : Option (List Int) := (ident_Right.f a0_0 a0_1).bind fun t117 => (if t117 = true then ((ident_Key.f a0_0 a0_1 a1).bind fun t118 => ((strand_Of.f k (IntKind.u64.wrap (t118)) 32).bind fun t119 => (if a0_0 = true then (some t119) else (if 13 ≤ (t119.length : Int) then (some (t119.take (13 : Int).toNat)) else (none))))) else (some ([] : List Int)))
theorem ident_Bits.mono : ∀ a0 a1 a2 k, LeO (ident_Bits.f k a0 a1 a2) (ident_Bits.f (k + 1) a0 a1 a2) := by
  intro a0 a1 a2 k
  unfold ident_Bits.f
  repeat' first
      | (with_reducible exact strand_Of.mono _ _ _)
      | (with_reducible exact LeO.refl _)
      | (with_reducible exact LeO.none _)
      | (with_reducible refine LeO.ite ?_ ?_)
      | (with_reducible refine LeO.bind ?_ (fun _ => ?_))
      | exact strand_Of.mono _ _ _
      | exact LeO.none _
      | refine LeO.ite ?_ ?_
      | refine LeO.bind ?_ (fun _ => ?_)
set_option maxHeartbeats 8000000 in
set_option maxRecDepth 100000 in
theorem ident_Bits.calls (k : Nat) (a0_0 : Bool) (a0_1 : Int) (a1 : Bool) (r : List Int) (w : World) (h : ident_Bits.f k a0_0 a0_1 a1 = some r) :
    Calls Try.prog 12 #[.agg #[.bool a0_0, .int .u32 a0_1], .bool a1] w fun e w' => ∃ v0_ : Value, e = .returned (v0_) ∧ Kd.R (Kd.int .u8) 5 w' w.heap.size (fun _ => True) v0_ r ∧ Below w.heap.size w w' := by
  have hu24 := Try.underlying24
  have HB := Aside0.mk (Below.refl w.heap.size w)
  have H : ((ident_Right.f a0_0 a0_1).bind fun t117 => (if t117 = true then ((ident_Key.f a0_0 a0_1 a1).bind fun t118 => ((strand_Of.f k (IntKind.u64.wrap (t118)) 32).bind fun t119 => (if a0_0 = true then (some t119) else (if 13 ≤ (t119.length : Int) then (some (t119.take (13 : Int).toNat)) else (none))))) else (some ([] : List Int)))) = some r := h
  clear h
  replace H := Option.bind_eq_some_iff.mp H
  obtain ⟨t117, A30, H⟩ := H
  replace H : (if t117 = true then ((ident_Key.f a0_0 a0_1 a1).bind fun t118 => ((strand_Of.f k (IntKind.u64.wrap (t118)) 32).bind fun t119 => (if a0_0 = true then (some t119) else (if 13 ≤ (t119.length : Int) then (some (t119.take (13 : Int).toNat)) else (none))))) else (some ([] : List Int))) = some r := H
  have A3 := Aside0.mk A30
  clear A30
  by_cases c4 : t117 = true
  · subst c4
    have H1 : ((ident_Key.f a0_0 a0_1 a1).bind fun t118 => ((strand_Of.f k (IntKind.u64.wrap (t118)) 32).bind fun t119 => (if a0_0 = true then (some t119) else (if 13 ≤ (t119.length : Int) then (some (t119.take (13 : Int).toNat)) else (none))))) = some r := by rw [if_pos rfl] at H; exact H
    clear H
    have H := H1
    clear H1
    replace H := Option.bind_eq_some_iff.mp H
    obtain ⟨t118, A50, H⟩ := H
    replace H : ((strand_Of.f k (IntKind.u64.wrap (t118)) 32).bind fun t119 => (if a0_0 = true then (some t119) else (if 13 ≤ (t119.length : Int) then (some (t119.take (13 : Int).toNat)) else (none)))) = some r := H
    have A5 := Aside0.mk A50
    clear A50
    replace H := Option.bind_eq_some_iff.mp H
    obtain ⟨t119, A60, H⟩ := H
    replace H : (if a0_0 = true then (some t119) else (if 13 ≤ (t119.length : Int) then (some (t119.take (13 : Int).toNat)) else (none))) = some r := H
    have A6 := Aside0.mk A60
    clear A60
    by_cases c7 : a0_0 = true
    · subst c7
      have H1 : (some t119) = some r := by rw [if_pos rfl] at H; exact H
      clear H
      have H := H1
      clear H1
      obtain rfl := Option.some.inj H
      go_enter Try.func12, Try.ntmps12
      go_wp2_with (first | ((with_reducible refine gate_dst (N := 2) rfl ?_); refine box_event ?hg (N := 2) ?hd (cs := #[.bool true, .int .u32 a0_1]) (t := 24) ?hr ?_; (case hd => rfl); (case hg => rfl); (case hr => first | (go_simp; done) | (go_simp; rfl)); intro gb116 hg w8 hbox hb; have n0_ := Aside0.mk (below_step (by repeat (first | (with_reducible first | exact HB.out | apply below_alloc | apply pw_below_drewN | apply below_drew1) | exact HB.out)) hb); have n1_ := Aside0.mk (hbox); have n2_ := Aside0.mk ((by rw [hg]; exact (below_size (by repeat (first | (with_reducible first | exact HB.out | apply below_alloc | apply pw_below_drewN | apply below_drew1) | exact HB.out))) : w.heap.size ≤ gb116)); have n3_ := Aside0.mk ((by rw [hg]; exact (below_size (by repeat (first | (with_reducible first | exact HB.out | apply below_alloc | apply pw_below_drewN | apply below_drew1) | exact HB.out))) : w.heap.size ≤ gb116)); clear HB; have HB := n0_; have BK116 := n1_; have GW116 := n2_; have GE116 := n3_; clear n0_ n1_ n2_ n3_; clear hb hbox hg; have hcz9_0 : w8.cell? ⟨gb116, 0, none⟩ = some (.bool true) := (blk_cell BK116.out 0).trans rfl; have hcz9_1 : w8.cell? ⟨gb116, 1, none⟩ = some (.int .u32 a0_1) := (blk_cell BK116.out 1).trans rfl; have hfz9_0 := blk_frozen BK116.out 0; have hfz9_1 := blk_frozen BK116.out 1) | ((with_reducible refine gate_callee (f := 17) rfl ?_); refine goesL_ (some 7) rfl rfl Try.func17 (by kernel_rfl) rfl #[.agg #[.bool true, .int .u32 a0_1]] rfl (by (try simp only [List.map_toArray, List.map_cons, List.map_nil]); first | done | rfl | (simp only [List.length_drop, List.length_take]; rfl)) ?_; (with_reducible refine (ident_Right.calls true a0_1 true _ A3.out).mono ?_); rintro e w10 ⟨rfl, hb⟩; refine ⟨_, rfl, ?_⟩; have n0_ := Aside0.mk (blk_below (g := gb116) (o := .cells #[.bool true, .int .u32 a0_1] 24 (0, 0)) (by (with_reducible repeat (first | refine blk_drewN ?_ _ | refine blk_drew ?_ | refine blk_alloc ?_ _)); exact BK116.out) hb); have n1_ := Aside0.mk (below_step (by repeat (first | (with_reducible first | exact HB.out | apply below_alloc | apply pw_below_drewN | apply below_drew1 | refine below_set ?_ GE116.out) | exact HB.out)) hb); clear BK116; clear HB; have BK116 := n0_; have HB := n1_; clear n0_ n1_; (try clear hb); (try clear hb2); (try clear hk); (try clear hi); have hcz11_0 : w10.cell? ⟨gb116, 0, none⟩ = some (.bool true) := (blk_cell BK116.out 0).trans rfl; have hcz11_1 : w10.cell? ⟨gb116, 1, none⟩ = some (.int .u32 a0_1) := (blk_cell BK116.out 1).trans rfl; have hfz11_0 := blk_frozen BK116.out 0; have hfz11_1 := blk_frozen BK116.out 1) | ((with_reducible refine gate_callee (f := 20) rfl ?_); refine goesL_ (some 11) rfl rfl Try.func20 (by kernel_rfl) rfl #[.agg #[.bool true, .int .u32 a0_1], .bool a1] rfl (by (try simp only [List.map_toArray, List.map_cons, List.map_nil]); first | done | rfl | (simp only [List.length_drop, List.length_take]; rfl)) ?_; (with_reducible refine (ident_Key.calls true a0_1 a1 t118 _ A5.out).mono ?_); rintro e w12 ⟨rfl, hb⟩; refine ⟨_, rfl, ?_⟩; have n0_ := Aside0.mk (blk_below (g := gb116) (o := .cells #[.bool true, .int .u32 a0_1] 24 (0, 0)) (by (with_reducible repeat (first | refine blk_drewN ?_ _ | refine blk_drew ?_ | refine blk_alloc ?_ _)); exact BK116.out) hb); have n1_ := Aside0.mk (below_step (by repeat (first | (with_reducible first | exact HB.out | apply below_alloc | apply pw_below_drewN | apply below_drew1 | refine below_set ?_ GE116.out) | exact HB.out)) hb); clear BK116; clear HB; have BK116 := n0_; have HB := n1_; clear n0_ n1_; (try clear hb); (try clear hb2); (try clear hk); (try clear hi)) | ((with_reducible refine gate_callee (f := 24) rfl ?_); refine goesL_ (some 13) rfl rfl Try.func24 (by kernel_rfl) rfl #[.int .u64 (IntKind.u64.wrap (t118)), .int .i64 32] rfl (by (try simp only [List.map_toArray, List.map_cons, List.map_nil]); first | done | rfl | (simp only [List.length_drop, List.length_take]; rfl)) ?_; (with_reducible refine (strand_Of.calls k (IntKind.u64.wrap (t118)) 32 t119 _ A6.out).mono ?_); rintro e w13 ⟨v120, rfl, ho0, hb⟩; refine ⟨_, rfl, ?_⟩; have n0_ := Aside0.mk (Kd.R_lower ho0 (below_size (by repeat (first | (with_reducible first | exact HB.out | apply below_alloc | apply pw_below_drewN | apply below_drew1 | refine below_set ?_ GE116.out) | exact HB.out)))); have n1_ := Aside0.mk (blk_below (g := gb116) (o := .cells #[.bool true, .int .u32 a0_1] 24 (0, 0)) (by (with_reducible repeat (first | refine blk_drewN ?_ _ | refine blk_drew ?_ | refine blk_alloc ?_ _)); exact BK116.out) hb); have n2_ := Aside0.mk (below_step (by repeat (first | (with_reducible first | exact HB.out | apply below_alloc | apply pw_below_drewN | apply below_drew1 | refine below_set ?_ GE116.out) | exact HB.out)) hb); clear BK116; clear HB; have HO121 := n0_; have BK116 := n1_; have HB := n2_; clear n0_ n1_ n2_; (try clear hb); (try clear hb2); (try clear hk); (try clear hi); (try clear ho0); have hcz14_0 : w13.cell? ⟨gb116, 0, none⟩ = some (.bool true) := (blk_cell BK116.out 0).trans rfl; have hcz14_1 : w13.cell? ⟨gb116, 1, none⟩ = some (.int .u32 a0_1) := (blk_cell BK116.out 1).trans rfl; have hfz14_0 := blk_frozen BK116.out 0; have hfz14_1 := blk_frozen BK116.out 1))
      go_ret
      exact ⟨_, by first | rfl | (simp [errW_none, errW_some] <;> rfl) | (simp [*, errW_none, errW_some] <;> rfl), by (with_reducible repeat (first | apply Kd.R_alloc | apply Kd.R_drewN | apply Kd.R_drew)); exact HO121.out, by repeat (first | (with_reducible first | exact HB.out | apply below_alloc | apply pw_below_drewN | apply below_drew1 | refine below_set ?_ GE116.out) | exact HB.out)⟩
    · replace c7 := Bool.eq_false_iff.mpr c7
      subst c7
      have H1 : (if 13 ≤ (t119.length : Int) then (some (t119.take (13 : Int).toNat)) else (none)) = some r := by rw [if_neg (show ¬ (false = true) by decide)] at H; exact H
      clear H
      have H := H1
      clear H1
      by_cases c15 : 13 ≤ (t119.length : Int)
      · rw [if_pos c15] at H
        have c15b0 := eq_true c15
        have c15b1 : decide (13 ≤ (t119.length : Int)) = true := decide_eq_true c15
        clear c15
        obtain ⟨y122, hy122⟩ : ∃ y_ : List Int, y_ = (t119.take (13 : Int).toNat) := ⟨_, rfl⟩
        replace H : (some y122) = some r := by first | (rw [hy122]; with_reducible exact H) | (have H2_ := (Option.bind_some _ _).symm.trans H; rw [hy122]; with_reducible exact H2_) | (have H2_ := (Option.bind_some _ _).symm.trans H; with_reducible exact H2_) | with_reducible exact H | (rw [hy122]; exact H) | exact H
        have Ny122 := Aside0.mk hy122
        clear hy122
        obtain rfl := Option.some.inj H
        go_enter Try.func12, Try.ntmps12
        go_wp2_with (first | ((with_reducible refine gate_dst (N := 2) rfl ?_); refine box_event ?hg (N := 2) ?hd (cs := #[.bool false, .int .u32 a0_1]) (t := 24) ?hr ?_; (case hd => rfl); (case hg => rfl); (case hr => first | (go_simp; done) | (go_simp; rfl)); intro gb116 hg w16 hbox hb; have n0_ := Aside0.mk (below_step (by repeat (first | (with_reducible first | exact HB.out | apply below_alloc | apply pw_below_drewN | apply below_drew1) | exact HB.out)) hb); have n1_ := Aside0.mk (hbox); have n2_ := Aside0.mk ((by rw [hg]; exact (below_size (by repeat (first | (with_reducible first | exact HB.out | apply below_alloc | apply pw_below_drewN | apply below_drew1) | exact HB.out))) : w.heap.size ≤ gb116)); have n3_ := Aside0.mk ((by rw [hg]; exact (below_size (by repeat (first | (with_reducible first | exact HB.out | apply below_alloc | apply pw_below_drewN | apply below_drew1) | exact HB.out))) : w.heap.size ≤ gb116)); clear HB; have HB := n0_; have BK116 := n1_; have GW116 := n2_; have GE116 := n3_; clear n0_ n1_ n2_ n3_; clear hb hbox hg; have hcz17_0 : w16.cell? ⟨gb116, 0, none⟩ = some (.bool false) := (blk_cell BK116.out 0).trans rfl; have hcz17_1 : w16.cell? ⟨gb116, 1, none⟩ = some (.int .u32 a0_1) := (blk_cell BK116.out 1).trans rfl; have hfz17_0 := blk_frozen BK116.out 0; have hfz17_1 := blk_frozen BK116.out 1) | ((with_reducible refine gate_callee (f := 17) rfl ?_); refine goesL_ (some 7) rfl rfl Try.func17 (by kernel_rfl) rfl #[.agg #[.bool false, .int .u32 a0_1]] rfl (by (try simp only [List.map_toArray, List.map_cons, List.map_nil]); first | done | rfl | (simp only [List.length_drop, List.length_take]; rfl)) ?_; (with_reducible refine (ident_Right.calls false a0_1 true _ A3.out).mono ?_); rintro e w18 ⟨rfl, hb⟩; refine ⟨_, rfl, ?_⟩; have n0_ := Aside0.mk (blk_below (g := gb116) (o := .cells #[.bool false, .int .u32 a0_1] 24 (0, 0)) (by (with_reducible repeat (first | refine blk_drewN ?_ _ | refine blk_drew ?_ | refine blk_alloc ?_ _)); exact BK116.out) hb); have n1_ := Aside0.mk (below_step (by repeat (first | (with_reducible first | exact HB.out | apply below_alloc | apply pw_below_drewN | apply below_drew1 | refine below_set ?_ GE116.out) | exact HB.out)) hb); clear BK116; clear HB; have BK116 := n0_; have HB := n1_; clear n0_ n1_; (try clear hb); (try clear hb2); (try clear hk); (try clear hi); have hcz19_0 : w18.cell? ⟨gb116, 0, none⟩ = some (.bool false) := (blk_cell BK116.out 0).trans rfl; have hcz19_1 : w18.cell? ⟨gb116, 1, none⟩ = some (.int .u32 a0_1) := (blk_cell BK116.out 1).trans rfl; have hfz19_0 := blk_frozen BK116.out 0; have hfz19_1 := blk_frozen BK116.out 1) | ((with_reducible refine gate_callee (f := 20) rfl ?_); refine goesL_ (some 11) rfl rfl Try.func20 (by kernel_rfl) rfl #[.agg #[.bool false, .int .u32 a0_1], .bool a1] rfl (by (try simp only [List.map_toArray, List.map_cons, List.map_nil]); first | done | rfl | (simp only [List.length_drop, List.length_take]; rfl)) ?_; (with_reducible refine (ident_Key.calls false a0_1 a1 t118 _ A5.out).mono ?_); rintro e w20 ⟨rfl, hb⟩; refine ⟨_, rfl, ?_⟩; have n0_ := Aside0.mk (blk_below (g := gb116) (o := .cells #[.bool false, .int .u32 a0_1] 24 (0, 0)) (by (with_reducible repeat (first | refine blk_drewN ?_ _ | refine blk_drew ?_ | refine blk_alloc ?_ _)); exact BK116.out) hb); have n1_ := Aside0.mk (below_step (by repeat (first | (with_reducible first | exact HB.out | apply below_alloc | apply pw_below_drewN | apply below_drew1 | refine below_set ?_ GE116.out) | exact HB.out)) hb); clear BK116; clear HB; have BK116 := n0_; have HB := n1_; clear n0_ n1_; (try clear hb); (try clear hb2); (try clear hk); (try clear hi)) | ((with_reducible refine gate_callee (f := 24) rfl ?_); refine goesL_ (some 13) rfl rfl Try.func24 (by kernel_rfl) rfl #[.int .u64 (IntKind.u64.wrap (t118)), .int .i64 32] rfl (by (try simp only [List.map_toArray, List.map_cons, List.map_nil]); first | done | rfl | (simp only [List.length_drop, List.length_take]; rfl)) ?_; (with_reducible refine (strand_Of.calls k (IntKind.u64.wrap (t118)) 32 t119 _ A6.out).mono ?_); rintro e w21 ⟨v120, rfl, ho0, hb⟩; refine ⟨_, rfl, ?_⟩; have n0_ := Aside0.mk (Kd.R_lower ho0 (below_size (by repeat (first | (with_reducible first | exact HB.out | apply below_alloc | apply pw_below_drewN | apply below_drew1 | refine below_set ?_ GE116.out) | exact HB.out)))); have n1_ := Aside0.mk (blk_below (g := gb116) (o := .cells #[.bool false, .int .u32 a0_1] 24 (0, 0)) (by (with_reducible repeat (first | refine blk_drewN ?_ _ | refine blk_drew ?_ | refine blk_alloc ?_ _)); exact BK116.out) hb); have n2_ := Aside0.mk (below_step (by repeat (first | (with_reducible first | exact HB.out | apply below_alloc | apply pw_below_drewN | apply below_drew1 | refine below_set ?_ GE116.out) | exact HB.out)) hb); clear BK116; clear HB; have HO121 := n0_; have BK116 := n1_; have HB := n2_; clear n0_ n1_ n2_; (try clear hb); (try clear hb2); (try clear hk); (try clear hi); (try clear ho0); have hcz22_0 : w21.cell? ⟨gb116, 0, none⟩ = some (.bool false) := (blk_cell BK116.out 0).trans rfl; have hcz22_1 : w21.cell? ⟨gb116, 1, none⟩ = some (.int .u32 a0_1) := (blk_cell BK116.out 1).trans rfl; have hfz22_0 := blk_frozen BK116.out 0; have hfz22_1 := blk_frozen BK116.out 1; obtain ⟨Ao23, co23, eo23⟩ := Kd.R_slice HO121.out; subst eo23; have q24 : (13 : Int) ≤ ((t119.length : Int) : Int) := of_decide_eq_true (by first | (with_reducible assumption) | assumption); obtain ⟨i024, hi024, _, hsz24, _⟩ := info_parts info5; have hcut24 := cut_to (P := Try.prog) 32 5 .i64 Try.underlying32 hi024 Ao23 t119.length co23 13 (by omega) q24 (Kd.R_reads' HO121.out).2.1; have hr24 := Kd.R_take (m := (13 : Int).toNat) HO121.out (by omega); have hy24 : y122.length = (13 : Int).toNat := (by rw [Ny122.out, List.length_take]; omega); rw [← Ny122.out] at hr24; rw [← hy24] at hr24 hcut24; clear hy24 hi024 hsz24 HO121; have HO124 := Aside0.mk hr24; clear hr24; replace q24 := eq_true q24))
        go_ret
        exact ⟨_, by first | rfl | (simp [errW_none, errW_some] <;> rfl) | (simp [*, errW_none, errW_some] <;> rfl), by (with_reducible repeat (first | apply Kd.R_alloc | apply Kd.R_drewN | apply Kd.R_drew)); exact HO124.out, by repeat (first | (with_reducible first | exact HB.out | apply below_alloc | apply pw_below_drewN | apply below_drew1 | refine below_set ?_ GE116.out) | exact HB.out)⟩
      · rw [if_neg c15] at H
        exact absurd H (by simp)
  · replace c4 := Bool.eq_false_iff.mpr c4
    subst c4
    have H1 : (some ([] : List Int)) = some r := by rw [if_neg (show ¬ (false = true) by decide)] at H; exact H
    clear H
    have H := H1
    clear H1
    obtain rfl := Option.some.inj H
    go_enter Try.func12, Try.ntmps12
    go_wp2_with (first | ((with_reducible refine gate_dst (N := 2) rfl ?_); refine box_event ?hg (N := 2) ?hd (cs := #[.bool a0_0, .int .u32 a0_1]) (t := 24) ?hr ?_; (case hd => rfl); (case hg => rfl); (case hr => first | (go_simp; done) | (go_simp; rfl)); intro gb116 hg w25 hbox hb; have n0_ := Aside0.mk (below_step (by repeat (first | (with_reducible first | exact HB.out | apply below_alloc | apply pw_below_drewN | apply below_drew1) | exact HB.out)) hb); have n1_ := Aside0.mk (hbox); have n2_ := Aside0.mk ((by rw [hg]; exact (below_size (by repeat (first | (with_reducible first | exact HB.out | apply below_alloc | apply pw_below_drewN | apply below_drew1) | exact HB.out))) : w.heap.size ≤ gb116)); have n3_ := Aside0.mk ((by rw [hg]; exact (below_size (by repeat (first | (with_reducible first | exact HB.out | apply below_alloc | apply pw_below_drewN | apply below_drew1) | exact HB.out))) : w.heap.size ≤ gb116)); clear HB; have HB := n0_; have BK116 := n1_; have GW116 := n2_; have GE116 := n3_; clear n0_ n1_ n2_ n3_; clear hb hbox hg; have hcz26_0 : w25.cell? ⟨gb116, 0, none⟩ = some (.bool a0_0) := (blk_cell BK116.out 0).trans rfl; have hcz26_1 : w25.cell? ⟨gb116, 1, none⟩ = some (.int .u32 a0_1) := (blk_cell BK116.out 1).trans rfl; have hfz26_0 := blk_frozen BK116.out 0; have hfz26_1 := blk_frozen BK116.out 1) | ((with_reducible refine gate_callee (f := 17) rfl ?_); refine goesL_ (some 7) rfl rfl Try.func17 (by kernel_rfl) rfl #[.agg #[.bool a0_0, .int .u32 a0_1]] rfl (by (try simp only [List.map_toArray, List.map_cons, List.map_nil]); first | done | rfl | (simp only [List.length_drop, List.length_take]; rfl)) ?_; (with_reducible refine (ident_Right.calls a0_0 a0_1 false _ A3.out).mono ?_); rintro e w27 ⟨rfl, hb⟩; refine ⟨_, rfl, ?_⟩; have n0_ := Aside0.mk (blk_below (g := gb116) (o := .cells #[.bool a0_0, .int .u32 a0_1] 24 (0, 0)) (by (with_reducible repeat (first | refine blk_drewN ?_ _ | refine blk_drew ?_ | refine blk_alloc ?_ _)); exact BK116.out) hb); have n1_ := Aside0.mk (below_step (by repeat (first | (with_reducible first | exact HB.out | apply below_alloc | apply pw_below_drewN | apply below_drew1 | refine below_set ?_ GE116.out) | exact HB.out)) hb); clear BK116; clear HB; have BK116 := n0_; have HB := n1_; clear n0_ n1_; (try clear hb); (try clear hb2); (try clear hk); (try clear hi)))
    go_ret
    exact ⟨_, by first | rfl | (simp [errW_none, errW_some] <;> rfl) | (simp [*, errW_none, errW_some] <;> rfl), by first | exact Kd.R_nil _ _ _ _ _ | exact Kd.N_nil _ _ _ _ _ | exact Kd.V_nil _ _ _ _ _ | exact Kd.Q_nil _ _ _ _ _ | exact Kd.S_nil _ _ _ _ _, by repeat (first | (with_reducible first | exact HB.out | apply below_alloc | apply pw_below_drewN | apply below_drew1 | refine below_set ?_ GE116.out) | exact HB.out)⟩

/-! ### ident_digit: function 27 -/
def hexs : ByteArray := ⟨#[48, 49, 50, 51, 52, 53, 54, 55, 56, 57, 97, 98, 99, 100, 101, 102]⟩
theorem hexs_size : hexs.size = 16 := by decide +kernel
def hexAt (p : Nat) : Int := if p < 10 then 48 + p else 87 + p
theorem hexs_all : ∀ i : Fin 16, ((hexs.data.getD i.1 0).toNat : Int) = hexAt i.1 := by decide +kernel
theorem hexs_at (p : Nat) (h : p < hexs.size) : ((hexs[p]'h).toNat : Int) = hexAt p := by
  have h1 := hexs_all ⟨p, by rw [hexs_size] at h; exact h⟩
  rw [← h1]
  have h2 : hexs.data.getD p 0 = hexs.data[p]'h := by rw [Array.getD_eq_getD_getElem?, Array.getElem?_eq_getElem (show p < hexs.data.size from h)]; rfl
  rw [h2]
  rfl
def ident_digit.f (a0 : Int) : Option Int := some (if 48 ≤ a0 ∧ a0 ≤ 57 then a0 - 48 else if 97 ≤ a0 ∧ a0 ≤ 102 then a0 - 87 else -1)
set_option maxHeartbeats 4000000 in
set_option maxRecDepth 100000 in
theorem ident_digit.calls (a0 : Int) (r : Int) (w : World) (h : ident_digit.f a0 = some r) :
    Calls Try.prog 27 #[.int .u8 a0] w fun e w' => e = .returned (.int .i64 r) ∧ Below w.heap.size w w' := by
  have H := Aside0.mk (Option.some.inj h).symm
  clear h
  have hu9 := Try.underlying9
  go_enter Try.func27, Try.ntmps27
  go_wp2
  go_loopg [3, 4] 16 (fun kq v3 v4 w' => ∃ p : Nat, w' = w.iter hexs p ∧ Aside0 (p + kq = 16) ∧ Aside0 (∀ j, j < p → hexAt j ≠ a0))
  case atStart => exact ⟨0, rfl, ⟨rfl⟩, ⟨fun j hj => absurd hj (Nat.not_lt_zero _)⟩⟩
  case round =>
    obtain ⟨p, rfl, HP, HJ⟩ := hrel
    by_cases hp : p < 16
    · obtain ⟨k1, rfl⟩ : ∃ k1, gk = k1 + 1 := ⟨gk - 1, by have := HP.out; omega⟩
      have hs : p < hexs.size := by rw [hexs_size]; exact hp
      have e := hexs_at p hs
      have ha : (hexs[p]'hs).toNat < 128 := by
        have h2 : ((hexs[p]'hs).toNat : Int) < 128 := by rw [e]; unfold hexAt; split <;> omega
        omega
      have hnx := fun ty => run_next_ascii (P := Try.prog) w hexs p ty hs ha
      rw [e] at hnx
      obtain ⟨x, hx⟩ : ∃ x, hexAt p = x := ⟨_, rfl⟩
      have x0 : 0 ≤ x ∧ x < 128 := by rw [← hx]; unfold hexAt; split <;> omega
      rw [hx] at hnx
      have HX := Aside0.mk hx
      clear hx e ha
      by_cases hc : x = a0
      · subst hc
        clear hs
        go_wp2
        go_ret
        refine ⟨congrArg (fun n => Ending.returned (Value.int .i64 n)) (Eq.symm ?_), below_alloc (Below.refl _ _) _⟩
        have h := H.out
        have e := HX.out
        unfold hexAt at e
        rw [h]
        split at e
        · rw [if_pos (by omega)]; omega
        · rw [if_neg (by omega), if_pos (by omega)]; omega
      · have hb : (x == a0) = false := by simpa using hc
        have HJ' : Aside0 (∀ j, j < p + 1 → hexAt j ≠ a0) := ⟨fun j hj => by
          rcases Nat.lt_succ_iff_lt_or_eq.1 hj with h | rfl
          · exact HJ.out j h
          · rw [HX.out]; exact hc⟩
        clear hc hs
        go_wp2
        go_roundg k1
        case measure => omega
        case rel => exact ⟨p + 1, rfl, ⟨by have := HP.out; omega⟩, HJ'⟩
    · obtain rfl : p = 16 := by have := HP.out; omega
      have hnx := fun ty => run_next_end (P := Try.prog) w hexs 16 ty (by rw [hexs_size]; omega)
      go_wp2
      go_ret
      refine ⟨congrArg (fun n => Ending.returned (Value.int .i64 n)) (Eq.symm ?_), below_alloc (Below.refl _ _) _⟩
      have h := H.out
      have k := HJ.out
      rw [h]
      by_cases c1 : 48 ≤ a0 ∧ a0 ≤ 57
      · have := k (a0 - 48).toNat (by omega)
        unfold hexAt at this
        rw [if_pos (by omega)] at this
        omega
      · rw [if_neg c1]
        by_cases c2 : 97 ≤ a0 ∧ a0 ≤ 102
        · have := k (a0 - 87).toNat (by omega)
          unfold hexAt at this
          rw [if_neg (by omega)] at this
          omega
        · rw [if_neg c2]

/-! ### ident_Parse: function 15 -/
def digV (c : Int) : Int := if 48 ≤ c ∧ c ≤ 57 then c - 48 else if 97 ≤ c ∧ c ≤ 102 then c - 87 else -1
theorem digV_range (c : Int) : -1 ≤ digV c ∧ digV c ≤ 15 := by
  unfold digV
  split
  · omega
  · split <;> omega
def putN (n d : Int) : Int := (n * 16) % 4294967296 + d % 16
def hexV (s : ByteArray) : Nat → Int
  | 0 => 0
  | k + 1 => putN (hexV s k) (digV (bt s k))
theorem hexV_range (s : ByteArray) : ∀ k, 0 ≤ hexV s k ∧ hexV s k < 4294967296
  | 0 => ⟨by unfold hexV; omega, by unfold hexV; omega⟩
  | k + 1 => by unfold hexV putN; omega
def rightV (e : Bool) (n : Int) : Bool := if e = true then (n / 536870912) == 0 else (n / 2048) == 0
def hexOk (s : ByteArray) : Nat → Bool
  | 0 => true
  | k + 1 => hexOk s k && decide (0 ≤ digV (bt s k))
def parseV (s : ByteArray) : Bool × Int × Bool :=
  if ((s.size : Int) == 3 || (s.size : Int) == 8) = true ∧ hexOk s s.size = true ∧ rightV ((s.size : Int) == 8) (hexV s s.size) = true then ((s.size : Int) == 8, hexV s s.size, true) else (false, 0, false)
theorem hexOk_le (s : ByteArray) (k : Nat) (h : hexOk s k = false) : ∀ m, hexOk s (k + m) = false
  | 0 => h
  | m + 1 => by show (hexOk s (k + m) && _) = false; rw [hexOk_le s k h m]; rfl
theorem and15 (d : Int) : Go.bits .and .u32 (d % 4294967296) 15 = d % 16 := by
  have h15 : (BitVec.ofInt 32 15).toNat = 2 ^ 4 - 1 := by decide
  have key : (BitVec.ofInt 32 (d % 4294967296) &&& BitVec.ofInt 32 15).toNat = ((d % 4294967296) % ((2 ^ 32 : Nat) : Int)).toNat % 2 ^ 4 := by
    rw [BitVec.toNat_and, BitVec.toNat_ofInt, h15, Nat.and_two_pow_sub_one_eq_mod]
  show IntKind.u32.wrap ((BitVec.ofInt 32 (d % 4294967296) &&& BitVec.ofInt 32 15).toNat : Nat) = d % 16
  rw [key, IntKind.wrap_u32]
  omega
theorem u32_put (n d : Int) (n0 : 0 ≤ n) (n1 : n < 4294967296) : Go.bits .or .u32 ((n * 16) % 4294967296) (Go.bits .and .u32 (d % 4294967296) 15) = putN n d := by
  rw [and15]
  have p4 : (2 : Int) ^ 4 = 16 := rfl
  have p32 : (2 : Int) ^ 32 = 4294967296 := rfl
  exact bits_join .u32 32 (by decide) (fun n h₀ h₁ => by rw [IntKind.wrap_u32]; omega) 4 ((n * 16) % 4294967296) (d % 16) (by omega) (by rw [p4]; omega) (by rw [p32]; omega) (by omega) (by rw [p4]; omega) (by rw [p32]; omega)
set_option maxHeartbeats 1000000 in
set_option maxRecDepth 100000 in
theorem put_calls (d n : Int) (bw bi : Nat) (wr : Bool) (w : World) (hne : bw ≠ bi) (n0 : 0 ≤ n) (n1 : n < 4294967296) (hw : w.heap[bw]? = some (.cells #[.bool wr] 4 (0, 0))) (hi : w.heap[bi]? = some (.cells #[.bool false, .int .u32 n] 24 (0, 0))) :
    Calls Try.prog 26 #[.int .i64 d, .pointer (some ⟨bw, 0, none⟩), .pointer (some ⟨bi, 0, none⟩)] w fun e w' => e = .returned (.tuple #[]) ∧ w' = (w.setCell ⟨bw, 0, none⟩ (.bool (wr || decide (d < 0)))).setCell ⟨bi, 1, none⟩ (.int .u32 (putN n d)) := by
  have hp := u32_put n d n0 n1
  have c0 : w.cell? ⟨bw, 0, none⟩ = some (.bool wr) := (blk_cell hw 0).trans rfl
  have c1 : w.cell? ⟨bi, 1, none⟩ = some (.int .u32 n) := (blk_cell hi 1).trans rfl
  have f0 := blk_frozen hw 0
  have f1 := blk_frozen hi 1
  have hne2 := Ne.symm hne
  have HP := Aside0.mk hp
  clear hw hi n0 n1 hp
  have hu24 := Try.underlying24
  cases wr with
  | false =>
    go_enter Try.func26, Try.ntmps26
    go_wp2
    go_end0
    rw [HP.out]
    exact ⟨rfl, by rw [Bool.false_or]⟩
  | true =>
    go_enter Try.func26, Try.ntmps26
    go_wp2
    go_end0
    rw [HP.out]
    exact ⟨rfl, by rw [Bool.true_or]⟩
theorem parse_bad (s : ByteArray) (k : Nat) (hk : k ≤ s.size) (h : (((s.size : Int) != 3 && (s.size : Int) != 8) || !hexOk s k) = true) : parseV s = (false, 0, false) := by
  unfold parseV
  refine if_neg fun ⟨h1, h2, _⟩ => ?_
  cases hx : hexOk s k with
  | false => have := hexOk_le s k hx (s.size - k); rw [show k + (s.size - k) = s.size by omega] at this; rw [this] at h2; cases h2
  | true =>
    rw [hx] at h
    by_cases a : (s.size : Int) = 3 <;> by_cases b : (s.size : Int) = 8 <;> simp_all
theorem parse_good (s : ByteArray) (h : (((s.size : Int) != 3 && (s.size : Int) != 8) || !hexOk s s.size) = false) : parseV s = if rightV ((s.size : Int) == 8) (hexV s s.size) = true then ((s.size : Int) == 8, hexV s s.size, true) else (false, 0, false) := by
  have h1 : ((s.size : Int) == 3 || (s.size : Int) == 8) = true := by
    by_cases a : (s.size : Int) = 3 <;> by_cases b : (s.size : Int) = 8 <;> simp_all
  have h2 : hexOk s s.size = true := by
    cases hx : hexOk s s.size with
    | true => rfl
    | false => rw [hx] at h; simp at h
  unfold parseV
  by_cases h3 : rightV ((s.size : Int) == 8) (hexV s s.size) = true
  · rw [if_pos ⟨h1, h2, h3⟩, if_pos h3]
  · rw [if_neg (fun h => h3 h.2.2), if_neg h3]
theorem Right_eq (e : Bool) (n : Int) : ident_Right.f e n = some (rightV e n) := by
  unfold ident_Right.f rightV
  split <;> rfl
theorem cells1p {w : World} {g : Nat} {a : Value} {t : TypeId} (h : w.heap[g]? = some (.cells #[a] t (0, 0))) : w.cell? ⟨g, 0, none⟩ = some a ∧ w.frozen? ⟨g, 0, none⟩ = false :=
  ⟨(blk_cell h 0).trans rfl, blk_frozen h 0⟩
theorem cells2p {w : World} {g : Nat} {a b : Value} {t : TypeId} (h : w.heap[g]? = some (.cells #[a, b] t (0, 0))) :
    w.cell? ⟨g, 0, none⟩ = some a ∧ w.cell? ⟨g, 1, none⟩ = some b ∧ w.frozen? ⟨g, 0, none⟩ = false ∧ w.frozen? ⟨g, 1, none⟩ = false :=
  ⟨(blk_cell h 0).trans rfl, (blk_cell h 1).trans rfl, blk_frozen h 0, blk_frozen h 1⟩
/-- What the three variables hold. -/
structure Ps (w W : World) (h : Nat) (wr : Bool) (e : Bool) (n : Int) : Prop where
  r : W.heap[h]? = some (.cells #[.bool false, .int .u32 0] 24 (0, 0))
  i : W.heap[h + 1]? = some (.cells #[.bool e, .int .u32 n] 24 (0, 0))
  x : W.heap[h + 2]? = some (.cells #[.bool wr] 4 (0, 0))
  b : Below w.heap.size w W
theorem Ps.below {w W W' : World} {h : Nat} {wr e : Bool} {n : Int} (p : Ps w W h wr e n) (hb : Below W.heap.size W W') : Ps w W' h wr e n := ⟨blk_below p.r hb, blk_below p.i hb, blk_below p.x hb, below_step p.b hb⟩
theorem Ps.put {w W : World} {h : Nat} {wr e : Bool} {n : Int} (p : Ps w W h wr e n) (hh : w.heap.size ≤ h) (wr' : Bool) (n' : Int) : Ps w ((W.setCell ⟨h + 2, 0, none⟩ (.bool wr')).setCell ⟨h + 1, 1, none⟩ (.int .u32 n')) h wr' e n' :=
  ⟨blk_far (blk_far p.r (show h ≠ h + 2 by omega) _) (show h ≠ h + 1 by omega) _, blk_put (blk_far p.i (show h + 1 ≠ h + 2 by omega) _) 1 _ rfl, blk_far (blk_put p.x 0 _ rfl) (show h + 2 ≠ h + 1 by omega) _, below_set (below_set p.b (by omega)) (by omega)⟩
theorem Ps.ext {w W : World} {h : Nat} {wr e : Bool} {n : Int} (p : Ps w W h wr e n) (hh : w.heap.size ≤ h) (e' : Bool) : Ps w (W.setCell ⟨h + 1, 0, none⟩ (.bool e')) h wr e' n :=
  ⟨blk_far p.r (show h ≠ h + 1 by omega) _, blk_put p.i 0 _ rfl, blk_far p.x (show h + 2 ≠ h + 1 by omega) _, below_set p.b (by omega)⟩
def ident_Parse.f (a0 : ByteArray) : Option (Bool × Int × Bool) := some (parseV a0)
set_option maxHeartbeats 8000000 in
set_option maxRecDepth 100000 in
theorem Parse_core (a0 : ByteArray) (v3 v8 e8 r1 r3 : Bool) (r2 : Int) (w : World) (hp : parseV a0 = (r1, r2, r3)) (h3 : ((a0.size : Int) != 3) = v3) (h8 : ((a0.size : Int) != 8) = v8) (he : ((a0.size : Int) == 8) = e8) :
    Calls Try.prog 15 #[.string a0] w fun e w' => e = .returned (.tuple #[.agg #[.bool r1, .int .u32 r2], .bool r3]) ∧ Below w.heap.size w w' := by
  have hmf : ∀ (fn : Fn) (first cap : Array Value) (w : World), (Instr.makeFunc fn first cap).run Try.prog w = .ok (.func fn first cap) w := fun _ _ _ _ => rfl
  have hu24 := Try.underlying24
  have HPV := Aside0.mk hp
  have HB3 := Aside0.mk h3
  have HB8 := Aside0.mk h8
  have HE8 := Aside0.mk he
  clear hp
  cases v3 <;> cases v8
  all_goals
    go_enter Try.func15, Try.ntmps15
    go_wp2_with fail
    go_loopg [7] a0.size (fun kq v7 w' => ∃ (k : Nat) (wr : Bool), v7 = .int .i64 k ∧ Aside0 (k + kq = a0.size) ∧ Aside0 (wr = (((a0.size : Int) != 3 && (a0.size : Int) != 8) || !hexOk a0 k)) ∧ Aside0 (Ps w w' w.heap.size wr false (hexV a0 k)))
    case atStart =>
      refine ⟨0, _, rfl, ⟨by omega⟩, ⟨rfl⟩, ⟨⟨?_, ?_, ?_, ?_⟩⟩⟩
      · exact blk_alloc (blk_alloc (blk_new _ _) _) _
      · simpa [hexV] using blk_alloc (blk_new (w.alloc (.cells #[.bool false, .int .u32 0] 24)) (.cells #[.bool false, .int .u32 0] 24)) (.cells #[.bool _] 4)
      · rw [HB3.out, HB8.out]
        simpa [hexOk] using blk_new ((w.alloc (.cells #[.bool false, .int .u32 0] 24)).alloc (.cells #[.bool false, .int .u32 0] 24)) (.cells #[.bool _] 4)
      · exact below_alloc (below_alloc (below_alloc (Below.refl _ _) _) _) _
    case round =>
      obtain ⟨k, wr, rfl, HK, HW, PS⟩ := hrel
      obtain ⟨x0, xf0⟩ := cells1p PS.out.x
      obtain ⟨i0, i1, if0, if1⟩ := cells2p PS.out.i
      obtain ⟨q0, q1, qf0, qf1⟩ := cells2p PS.out.r
      have hle : k ≤ a0.size := by have := HK.out; omega
      cases wr with
      | true =>
        have hpar := parse_bad a0 k hle HW.out.symm
        rw [HPV.out] at hpar
        simp only [Prod.mk.injEq] at hpar
        obtain ⟨rfl, rfl, rfl⟩ := hpar
        have fin : (k : Int) < (a0.size : Int) ∨ ¬ (k : Int) < (a0.size : Int) := Classical.em _
        rcases fin with c | c
        case' inl =>
          have cb : decide ((k : Int) < (a0.size : Int)) = true := decide_eq_true c
          have cn : decide (k < a0.size) = true := decide_eq_true (by omega)
        case' inr =>
          have cb : decide ((k : Int) < (a0.size : Int)) = false := decide_eq_false c
          have cn : decide (k < a0.size) = false := decide_eq_false (by omega)
        all_goals
          clear c hle
          go_wp2
          all_goals refine bodyPost_ret (results_ct rfl _ _ w.heap.size 24 #[.bool false, .int .u32 0] (0, 0) _ rfl (by refine blk_put (cs := #[.bool false, .int .u32 0]) ?_ 1 _ rfl; refine blk_put (cs := #[.bool false, .int .u32 0]) ?_ 0 _ rfl; exact (PS.out.ext (Nat.le_refl _) _).r) Try.underlying24 rfl (by kernel_rfl)) rfl ?_
          all_goals exact ⟨rfl, below_set (below_set (PS.out.ext (Nat.le_refl _) _).b (Nat.le_refl _)) (Nat.le_refl _)⟩
      | false =>
        by_cases c : k < a0.size
        · obtain ⟨k1, rfl⟩ : ∃ k1, gk = k1 + 1 := ⟨gk - 1, by have := HK.out; omega⟩
          have hw := HW.out
          have hbad : ((a0.size : Int) != 3 && (a0.size : Int) != 8) = false := by
            cases hb : ((a0.size : Int) != 3 && (a0.size : Int) != 8) with
            | false => rfl
            | true => rw [hb] at hw; cases hw
          have hok : hexOk a0 k = true := by
            rw [hbad] at hw
            cases hx : hexOk a0 k with
            | true => rfl
            | false => rw [hx] at hw; cases hw
          have hsz : (a0.size : Int) ≤ 8 := by
            by_cases a : (a0.size : Int) = 3
            · omega
            · by_cases b : (a0.size : Int) = 8
              · omega
              · rw [bne_iff_ne.mpr a, bne_iff_ne.mpr b] at hbad; cases hbad
          have hk1 : wrap64 ((k : Int) + 1) = ((k + 1 : Nat) : Int) := by rw [wr64 _ (by omega) (by omega)]; rfl
          have HK1 : Aside0 (k + 1 + k1 = a0.size) := ⟨by have := HK.out; omega⟩
          have HW1 : Aside0 ((false || decide (digV (bt a0 k) < 0)) = (((a0.size : Int) != 3 && (a0.size : Int) != 8) || !hexOk a0 (k + 1))) := ⟨by
            show _ = (_ || !(hexOk a0 k && decide (0 ≤ digV (bt a0 k))))
            rw [hbad, hok, Bool.false_or, Bool.false_or, Bool.true_and]
            by_cases hd : digV (bt a0 k) < 0
            · rw [decide_eq_true hd, decide_eq_false (by omega)]; rfl
            · rw [decide_eq_false hd, decide_eq_true (by omega)]; rfl⟩
          have cb : decide ((k : Int) < (a0.size : Int)) = true := decide_eq_true (by omega)
          have p0 : (0 ≤ (k : Int)) = True := eq_true (by omega)
          clear q0 q1 qf0 qf1
          have q0 : ((k : Int) < (a0.size : Int)) = True := eq_true (by omega)
          have hx : ∀ h : k < a0.size, ((a0[k]'h).toNat : Int) = bt a0 (k : Int) := fun h => by simpa using bt_at a0 (k : Int) (by simpa using h)
          have HR := Aside0.mk (hexV_range a0 k)
          have HG := Aside0.mk hk1
          clear hw hbad hok hsz c hle hk1
          go_wp2_with fail
          (with_reducible refine (ident_digit.calls (bt a0 k) (digV (bt a0 k)) _ rfl).mono ?_); rintro e w5 ⟨rfl, hb⟩
          have PS5 := Aside0.mk (PS.out.below hb)
          clear hb x0 xf0 i0 i1 if0 if1
          go_wp2_with fail
          (with_reducible refine (put_calls (digV (bt a0 k)) (hexV a0 k) (w.heap.size + 2) (w.heap.size + 1) false _ (by omega) HR.out.1 HR.out.2 PS5.out.x PS5.out.i).mono ?_); rintro e w6 ⟨rfl, rfl⟩
          have PS6 := Aside0.mk (PS5.out.put (Nat.le_refl _) (false || decide (digV (bt a0 k) < 0)) (putN (hexV a0 k) (digV (bt a0 k))))
          go_wp2
          go_roundg k1
          case measure => omega
          case rel => exact ⟨k + 1, _, by rw [HG.out], HK1, HW1, PS6⟩
        · obtain rfl : k = a0.size := by omega
          have hpar := parse_good a0 HW.out.symm
          rw [HPV.out, HE8.out] at hpar
          have cb : decide ((a0.size : Int) < (a0.size : Int)) = false := decide_eq_false (by omega)
          have PE := Aside0.mk (PS.out.ext (Nat.le_refl _) e8)
          clear c hle
          cases hrt : rightV e8 (hexV a0 a0.size) with
          | true =>
            rw [hrt, if_pos rfl] at hpar
            simp only [Prod.mk.injEq] at hpar
            obtain ⟨rfl, rfl, rfl⟩ := hpar
            have HRT : Aside0 (ident_Right.f r1 (hexV a0 a0.size) = some true) := ⟨by rw [Right_eq, hrt]⟩
            clear hrt
            go_wp2_with fail
            (with_reducible refine (ident_Right.calls r1 (hexV a0 a0.size) true _ HRT.out).mono ?_); rintro e w5 ⟨rfl, hb⟩
            have PS5 := Aside0.mk (PE.out.below hb)
            clear hb x0 xf0 i0 i1 if0 if1 q0 q1 qf0 qf1
            obtain ⟨i0, i1, if0, if1⟩ := cells2p PS5.out.i
            obtain ⟨q0, q1, qf0, qf1⟩ := cells2p PS5.out.r
            go_wp2
            refine bodyPost_ret (results_ct rfl _ _ w.heap.size 24 #[.bool r1, .int .u32 (hexV a0 a0.size)] (0, 0) _ rfl (by refine blk_put (cs := #[.bool r1, .int .u32 0]) ?_ 1 _ rfl; refine blk_put (cs := #[.bool false, .int .u32 0]) ?_ 0 _ rfl; exact PS5.out.r) Try.underlying24 rfl (by kernel_rfl)) rfl ?_
            exact ⟨rfl, below_set (below_set PS5.out.b (Nat.le_refl _)) (Nat.le_refl _)⟩
          | false =>
            rw [hrt, if_neg (by decide)] at hpar
            simp only [Prod.mk.injEq] at hpar
            obtain ⟨rfl, rfl, rfl⟩ := hpar
            have HRT : Aside0 (ident_Right.f e8 (hexV a0 a0.size) = some false) := ⟨by rw [Right_eq, hrt]⟩
            clear hrt
            go_wp2_with fail
            (with_reducible refine (ident_Right.calls e8 (hexV a0 a0.size) false _ HRT.out).mono ?_); rintro e w5 ⟨rfl, hb⟩
            have PS5 := Aside0.mk (PE.out.below hb)
            clear hb x0 xf0 i0 i1 if0 if1 q0 q1 qf0 qf1
            obtain ⟨q0, q1, qf0, qf1⟩ := cells2p PS5.out.r
            go_wp2
            refine bodyPost_ret (results_ct rfl _ _ w.heap.size 24 #[.bool false, .int .u32 0] (0, 0) _ rfl (by refine blk_put (cs := #[.bool false, .int .u32 0]) ?_ 1 _ rfl; refine blk_put (cs := #[.bool false, .int .u32 0]) ?_ 0 _ rfl; exact PS5.out.r) Try.underlying24 rfl (by kernel_rfl)) rfl ?_
            exact ⟨rfl, below_set (below_set PS5.out.b (Nat.le_refl _)) (Nat.le_refl _)⟩
theorem ident_Parse.calls (a0 : ByteArray) (r1 : Bool) (r2 : Int) (r3 : Bool) (w : World) (h : ident_Parse.f a0 = some (r1, r2, r3)) :
    Calls Try.prog 15 #[.string a0] w fun e w' => e = .returned (.tuple #[.agg #[.bool r1, .int .u32 r2], .bool r3]) ∧ Below w.heap.size w w' :=
  Parse_core a0 _ _ _ r1 r3 r2 w (Option.some.inj h) rfl rfl rfl

/-! ### ident_Text: function 22 -/
mutual
def ident_Text.j0 : Nat → Int → Bool → Int → Option (ByteArray)
  | 0, _, _, _ => none
  | k + 1, x3, x126000, x126001 => ident_Text.l0 k (⟨#[]⟩ : ByteArray) (wrap64 (x3 - 4)) x126000 x126001
def ident_Text.l0 : Nat → ByteArray → Int → Bool → Int → Option (ByteArray)
  | 0, _, _, _, _ => none
  | k + 1, x4, x5, x126000, x126001 => if x5 ≥ 0 then (if 0 ≤ (IntKind.u64.wrap (x5)) then (if 0 ≤ (Go.bits .and .u32 (shr .u32 x126001 (IntKind.u64.wrap (x5))) 15) then (if (Go.bits .and .u32 (shr .u32 x126001 (IntKind.u64.wrap (x5))) 15) ≤ (((Go.bits .and .u32 (shr .u32 x126001 (IntKind.u64.wrap (x5))) 15) + 1) % 4294967296) then (if (((Go.bits .and .u32 (shr .u32 x126001 (IntKind.u64.wrap (x5))) 15) + 1) % 4294967296) ≤ 16 then (if x4.size + ((⟨#[48, 49, 50, 51, 52, 53, 54, 55, 56, 57, 97, 98, 99, 100, 101, 102]⟩ : ByteArray).extract ((Go.bits .and .u32 (shr .u32 x126001 (IntKind.u64.wrap (x5))) 15) : Int).toNat ((((Go.bits .and .u32 (shr .u32 x126001 (IntKind.u64.wrap (x5))) 15) + 1) % 4294967296) : Int).toNat).size ≤ 9223372036854775807 then (ident_Text.l0 k (x4 ++ ((⟨#[48, 49, 50, 51, 52, 53, 54, 55, 56, 57, 97, 98, 99, 100, 101, 102]⟩ : ByteArray).extract ((Go.bits .and .u32 (shr .u32 x126001 (IntKind.u64.wrap (x5))) 15) : Int).toNat ((((Go.bits .and .u32 (shr .u32 x126001 (IntKind.u64.wrap (x5))) 15) + 1) % 4294967296) : Int).toNat)) (wrap64 (x5 - 4)) x126000 x126001) else (none)) else (none)) else (none)) else (none)) else (none)) else (some x4)
end
def ident_Text.f (k : Nat) (a0_0 : Bool) (a0_1 : Int) : Option (ByteArray) := (ident_Right.f a0_0 a0_1).bind fun t126 => (if t126 = true then (if a0_0 = true then (ident_Text.j0 k 32 a0_0 a0_1) else (ident_Text.j0 k 12 a0_0 a0_1)) else (some (⟨#[]⟩ : ByteArray)))
theorem ident_Text.mono_l : ∀ k, (∀ y0 y1 y2, LeO (ident_Text.j0 k y0 y1 y2) (ident_Text.j0 (k + 1) y0 y1 y2)) ∧ (∀ y0 y1 y2 y3, LeO (ident_Text.l0 k y0 y1 y2 y3) (ident_Text.l0 (k + 1) y0 y1 y2 y3))
  | 0 => ⟨fun _ _ _ r h => by simp [ident_Text.j0] at h, fun _ _ _ _ r h => by simp [ident_Text.l0] at h⟩
  | k + 1 => by
    obtain ⟨ih0, ih1⟩ := ident_Text.mono_l k
    refine ⟨?_, ?_⟩
    · intro y0 y1 y2
      unfold ident_Text.j0
      repeat' first
      | (with_reducible exact ih0 _ _ _)
      | (with_reducible exact ih1 _ _ _ _)
      | (with_reducible exact LeO.refl _)
      | (with_reducible exact LeO.none _)
      | (with_reducible refine LeO.ite ?_ ?_)
      | (with_reducible refine LeO.bind ?_ (fun _ => ?_))
      | exact ih0 _ _ _
      | exact ih1 _ _ _ _
      | exact LeO.none _
      | refine LeO.ite ?_ ?_
      | refine LeO.bind ?_ (fun _ => ?_)
    · intro y0 y1 y2 y3
      unfold ident_Text.l0
      repeat' first
      | (with_reducible exact ih0 _ _ _)
      | (with_reducible exact ih1 _ _ _ _)
      | (with_reducible exact LeO.refl _)
      | (with_reducible exact LeO.none _)
      | (with_reducible refine LeO.ite ?_ ?_)
      | (with_reducible refine LeO.bind ?_ (fun _ => ?_))
      | exact ih0 _ _ _
      | exact ih1 _ _ _ _
      | exact LeO.none _
      | refine LeO.ite ?_ ?_
      | refine LeO.bind ?_ (fun _ => ?_)
theorem ident_Text.mono : ∀ a0 a1 k, LeO (ident_Text.f k a0 a1) (ident_Text.f (k + 1) a0 a1) := by
  intro a0 a1 k
  obtain ⟨ih0, ih1⟩ := ident_Text.mono_l k
  unfold ident_Text.f
  repeat' first
      | (with_reducible exact ih0 _ _ _)
      | (with_reducible exact ih1 _ _ _ _)
      | (with_reducible exact LeO.refl _)
      | (with_reducible exact LeO.none _)
      | (with_reducible refine LeO.ite ?_ ?_)
      | (with_reducible refine LeO.bind ?_ (fun _ => ?_))
      | exact ih0 _ _ _
      | exact ih1 _ _ _ _
      | exact LeO.none _
      | refine LeO.ite ?_ ?_
      | refine LeO.bind ?_ (fun _ => ?_)
set_option maxHeartbeats 8000000 in
set_option maxRecDepth 100000 in
theorem ident_Text.calls (k : Nat) (a0_0 : Bool) (a0_1 : Int) (r : ByteArray) (w : World) (h : ident_Text.f k a0_0 a0_1 = some r) :
    Calls Try.prog 22 #[.agg #[.bool a0_0, .int .u32 a0_1]] w fun e w' => e = .returned (.string r) ∧ Below w.heap.size w w' := by
  have hu24 := Try.underlying24
  have HB := Aside0.mk (Below.refl w.heap.size w)
  have H : ((ident_Right.f a0_0 a0_1).bind fun t126 => (if t126 = true then (if a0_0 = true then (ident_Text.j0 k 32 a0_0 a0_1) else (ident_Text.j0 k 12 a0_0 a0_1)) else (some (⟨#[]⟩ : ByteArray)))) = some r := h
  clear h
  replace H := Option.bind_eq_some_iff.mp H
  obtain ⟨t126, A20, H⟩ := H
  replace H : (if t126 = true then (if a0_0 = true then (ident_Text.j0 k 32 a0_0 a0_1) else (ident_Text.j0 k 12 a0_0 a0_1)) else (some (⟨#[]⟩ : ByteArray))) = some r := H
  have A2 := Aside0.mk A20
  clear A20
  by_cases c3 : t126 = true
  · subst c3
    have H1 : (if a0_0 = true then (ident_Text.j0 k 32 a0_0 a0_1) else (ident_Text.j0 k 12 a0_0 a0_1)) = some r := by rw [if_pos rfl] at H; exact H
    clear H
    have H := H1
    clear H1
    have HC4 := Aside0.mk H
    clear H
    go_enter Try.func22, Try.ntmps22
    go_upto_if 11 with (first | ((with_reducible refine gate_dst (N := 1) rfl ?_); refine box_event ?hg (N := 1) ?hd (cs := #[.bool a0_0, .int .u32 a0_1]) (t := 24) ?hr ?_; (case hd => rfl); (case hg => rfl); (case hr => first | (go_simp; done) | (go_simp; rfl)); intro gb125 hg w5 hbox hb; have n0_ := Aside0.mk (below_step (by repeat (first | (with_reducible first | exact HB.out | apply below_alloc | apply pw_below_drewN | apply below_drew1) | exact HB.out)) hb); have n1_ := Aside0.mk (hbox); have n2_ := Aside0.mk ((by rw [hg]; exact (below_size (by repeat (first | (with_reducible first | exact HB.out | apply below_alloc | apply pw_below_drewN | apply below_drew1) | exact HB.out))) : w.heap.size ≤ gb125)); have n3_ := Aside0.mk ((by rw [hg]; exact (below_size (by repeat (first | (with_reducible first | exact HB.out | apply below_alloc | apply pw_below_drewN | apply below_drew1) | exact HB.out))) : w.heap.size ≤ gb125)); clear HB; have HB := n0_; have BK125 := n1_; have GW125 := n2_; have GE125 := n3_; clear n0_ n1_ n2_ n3_; clear hb hbox hg; have hcz6_0 : w5.cell? ⟨gb125, 0, none⟩ = some (.bool a0_0) := (blk_cell BK125.out 0).trans rfl; have hcz6_1 : w5.cell? ⟨gb125, 1, none⟩ = some (.int .u32 a0_1) := (blk_cell BK125.out 1).trans rfl; have hfz6_0 := blk_frozen BK125.out 0; have hfz6_1 := blk_frozen BK125.out 1) | ((with_reducible refine gate_callee (f := 17) rfl ?_); refine goesL_ (some 8) rfl rfl Try.func17 (by kernel_rfl) rfl #[.agg #[.bool a0_0, .int .u32 a0_1]] rfl (by (try simp only [List.map_toArray, List.map_cons, List.map_nil]); first | done | rfl | (simp only [List.length_drop, List.length_take]; rfl)) ?_; (with_reducible refine (ident_Right.calls a0_0 a0_1 true _ A2.out).mono ?_); rintro e w7 ⟨rfl, hb⟩; refine ⟨_, rfl, ?_⟩; have n0_ := Aside0.mk (blk_below (g := gb125) (o := .cells #[.bool a0_0, .int .u32 a0_1] 24 (0, 0)) (by (with_reducible repeat (first | refine blk_drewN ?_ _ | refine blk_drew ?_ | refine blk_alloc ?_ _)); exact BK125.out) hb); have n1_ := Aside0.mk (below_step (by repeat (first | (with_reducible first | exact HB.out | apply below_alloc | apply pw_below_drewN | apply below_drew1 | refine below_set ?_ GE125.out) | exact HB.out)) hb); clear BK125; clear HB; have BK125 := n0_; have HB := n1_; clear n0_ n1_; (try clear hb); (try clear hb2); (try clear hk); (try clear hi); have hcz8_0 : w7.cell? ⟨gb125, 0, none⟩ = some (.bool a0_0) := (blk_cell BK125.out 0).trans rfl; have hcz8_1 : w7.cell? ⟨gb125, 1, none⟩ = some (.int .u32 a0_1) := (blk_cell BK125.out 1).trans rfl; have hfz8_0 := blk_frozen BK125.out 0; have hfz8_1 := blk_frozen BK125.out 1))
    (try simp only [Act.put, List.setIfInBounds_toArray, List.set_cons_zero, List.set_cons_succ])
    go_cut [3] (fun v3 wc => ∃ (kq : Nat) (x3_3 : Int), v3 = .int .i64 x3_3 ∧ Aside0 (ident_Text.j0 kq x3_3 a0_0 a0_1 = some r) ∧ Aside0 (kq ≤ k) ∧ Aside0 (wc.heap[gb125]? = some (.cells #[.bool a0_0, .int .u32 a0_1] 24 (0, 0))) ∧ Aside0 (Below w.heap.size w wc))
    case first =>
      have H := HC4.out
      clear HC4
      by_cases c9 : a0_0 = true
      · subst c9
        have H1 : (ident_Text.j0 k 32 true a0_1) = some r := by rw [if_pos rfl] at H; exact H
        clear H
        have H := H1
        clear H1
        have H' := Aside0.mk H
        clear H
        go_wp2
        go_meet
        case rel => exact ⟨_, (32), (by first | rfl | (simp; done) | (simp [*]; done)), H', ⟨by first | omega | exact Nat.le_refl _⟩, ⟨by (with_reducible repeat (first | refine blk_drewN ?_ _ | refine blk_drew ?_ | refine blk_alloc ?_ _)); exact BK125.out⟩, ⟨by repeat (first | (with_reducible first | exact HB.out | apply below_alloc | apply pw_below_drewN | apply below_drew1 | refine below_set ?_ GE125.out) | exact HB.out)⟩⟩
      · replace c9 := Bool.eq_false_iff.mpr c9
        subst c9
        have H1 : (ident_Text.j0 k 12 false a0_1) = some r := by rw [if_neg (show ¬ (false = true) by decide)] at H; exact H
        clear H
        have H := H1
        clear H1
        have H' := Aside0.mk H
        clear H
        go_wp2
        go_meet
        case rel => exact ⟨_, (12), (by first | rfl | (simp; done) | (simp [*]; done)), H', ⟨by first | omega | exact Nat.le_refl _⟩, ⟨by (with_reducible repeat (first | refine blk_drewN ?_ _ | refine blk_drew ?_ | refine blk_alloc ?_ _)); exact BK125.out⟩, ⟨by repeat (first | (with_reducible first | exact HB.out | apply below_alloc | apply pw_below_drewN | apply below_drew1 | refine below_set ?_ GE125.out) | exact HB.out)⟩⟩
    case rest =>
      clear HC4
      try clear c1
      try clear c2
      try clear p2
      try clear c3
      try clear c9
      try clear hcz6_0
      try clear hcz6_1
      try clear hcz8_0
      try clear hcz8_1
      try clear hfz6_0
      try clear hfz6_1
      try clear hfz8_0
      try clear hfz8_1
      obtain ⟨kq, x3_3, rfl, HA, HJ3, BK125, HB⟩ := hcut
      cases kq with
      | zero => exact absurd HA.out (by simp [ident_Text.j0])
      | succ kj3 =>
        have H := HA.out
        clear HA
        simp only [ident_Text.j0] at H
        have H' := Aside0.mk H
        clear H
        go_wp2
        go_loopg [4, 5] kj3 (fun kq v4 v5 w' => ∃ (x4_2 : ByteArray) (x5_2 : Int), v4 = .string x4_2 ∧ v5 = .int .i64 x5_2 ∧ Aside0 (ident_Text.l0 kq x4_2 x5_2 a0_0 a0_1 = some r) ∧ Aside0 (kq ≤ kj3) ∧ Aside0 (w'.heap[gb125]? = some (.cells #[.bool a0_0, .int .u32 a0_1] 24 (0, 0))) ∧ Aside0 (Below w.heap.size w w'))
        case atStart => exact ⟨((⟨#[]⟩ : ByteArray)), (wrap64 (x3_3 - 4)), (by first | rfl | (simp; done) | (simp [*]; done)), (by first | rfl | (simp; done) | (simp [*]; done)), H', ⟨Nat.le_refl _⟩, ⟨by (with_reducible repeat (first | refine blk_drewN ?_ _ | refine blk_drew ?_ | refine blk_alloc ?_ _)); exact BK125.out⟩, ⟨by repeat (first | (with_reducible first | exact HB.out | apply below_alloc | apply pw_below_drewN | apply below_drew1 | refine below_set ?_ GE125.out) | exact HB.out)⟩⟩
        case round =>
          clear H'
          try clear c1
          try clear c2
          try clear p2
          try clear c3
          try clear p6
          try clear c9
          try clear hcz6_0
          try clear hcz6_1
          try clear hcz8_0
          try clear hcz8_1
          try clear hfz6_0
          try clear hfz6_1
          try clear hfz8_0
          try clear hfz8_1
          try clear p2
          obtain ⟨x4_2, x5_2, rfl, rfl, HA, HK2, BK125, HB⟩ := hrel
          cases gk with
          | zero => exact absurd HA.out (by simp [ident_Text.l0])
          | succ k2 =>
            have H := HA.out
            clear HA
            simp only [ident_Text.l0] at H
            by_cases c10 : x5_2 ≥ 0
            · rw [if_pos c10] at H
              have c10b0 : decide (0 ≤ x5_2) = true := decide_eq_true c10
              clear c10
              obtain ⟨ji11, hji11⟩ : ∃ j_ : Int, (IntKind.u64.wrap (x5_2)) = j_ := ⟨_, rfl⟩
              replace H : (if 0 ≤ (ji11) then (if 0 ≤ (Go.bits .and .u32 (shr .u32 a0_1 (ji11)) 15) then (if (Go.bits .and .u32 (shr .u32 a0_1 (ji11)) 15) ≤ (((Go.bits .and .u32 (shr .u32 a0_1 (ji11)) 15) + 1) % 4294967296) then (if (((Go.bits .and .u32 (shr .u32 a0_1 (ji11)) 15) + 1) % 4294967296) ≤ 16 then (if x4_2.size + ((⟨#[48, 49, 50, 51, 52, 53, 54, 55, 56, 57, 97, 98, 99, 100, 101, 102]⟩ : ByteArray).extract ((Go.bits .and .u32 (shr .u32 a0_1 (ji11)) 15) : Int).toNat ((((Go.bits .and .u32 (shr .u32 a0_1 (ji11)) 15) + 1) % 4294967296) : Int).toNat).size ≤ 9223372036854775807 then (ident_Text.l0 k2 (x4_2 ++ ((⟨#[48, 49, 50, 51, 52, 53, 54, 55, 56, 57, 97, 98, 99, 100, 101, 102]⟩ : ByteArray).extract ((Go.bits .and .u32 (shr .u32 a0_1 (ji11)) 15) : Int).toNat ((((Go.bits .and .u32 (shr .u32 a0_1 (ji11)) 15) + 1) % 4294967296) : Int).toNat)) (wrap64 (x5_2 - 4)) a0_0 a0_1) else (none)) else (none)) else (none)) else (none)) else (none)) = some r := by first | (rw [hji11] at H; exact H) | (simp only [hji11] at H ⊢; exact H)
              by_cases c12 : 0 ≤ (ji11)
              · rw [if_pos c12] at H
                have c12b0 := eq_true c12
                have c12b1 : decide (0 ≤ (ji11)) = true := decide_eq_true c12
                clear c12
                obtain ⟨ji13, hji13⟩ : ∃ j_ : Int, (shr .u32 a0_1 (ji11)) = j_ := ⟨_, rfl⟩
                replace H : (if 0 ≤ (Go.bits .and .u32 (ji13) 15) then (if (Go.bits .and .u32 (ji13) 15) ≤ (((Go.bits .and .u32 (ji13) 15) + 1) % 4294967296) then (if (((Go.bits .and .u32 (ji13) 15) + 1) % 4294967296) ≤ 16 then (if x4_2.size + ((⟨#[48, 49, 50, 51, 52, 53, 54, 55, 56, 57, 97, 98, 99, 100, 101, 102]⟩ : ByteArray).extract ((Go.bits .and .u32 (ji13) 15) : Int).toNat ((((Go.bits .and .u32 (ji13) 15) + 1) % 4294967296) : Int).toNat).size ≤ 9223372036854775807 then (ident_Text.l0 k2 (x4_2 ++ ((⟨#[48, 49, 50, 51, 52, 53, 54, 55, 56, 57, 97, 98, 99, 100, 101, 102]⟩ : ByteArray).extract ((Go.bits .and .u32 (ji13) 15) : Int).toNat ((((Go.bits .and .u32 (ji13) 15) + 1) % 4294967296) : Int).toNat)) (wrap64 (x5_2 - 4)) a0_0 a0_1) else (none)) else (none)) else (none)) else (none)) = some r := by first | (rw [hji13] at H; exact H) | (simp only [hji13] at H ⊢; exact H)
                have hji13_ : (a0_1 / 2 ^ min (ji11).toNat 32) = ji13 := hji13
                have hji13z : (ji11) ≤ 32 → (a0_1 / 2 ^ (ji11).toNat) = ji13 := shr_small hji13
                by_cases c14 : 0 ≤ (Go.bits .and .u32 (ji13) 15)
                · rw [if_pos c14] at H
                  have c14b0 := eq_true c14
                  have c14b1 : decide (0 ≤ (Go.bits .and .u32 (ji13) 15)) = true := decide_eq_true c14
                  clear c14
                  by_cases c15 : (Go.bits .and .u32 (ji13) 15) ≤ (((Go.bits .and .u32 (ji13) 15) + 1) % 4294967296)
                  · rw [if_pos c15] at H
                    have c15b0 := eq_true c15
                    have c15b1 : decide ((Go.bits .and .u32 (ji13) 15) ≤ (((Go.bits .and .u32 (ji13) 15) + 1) % 4294967296)) = true := decide_eq_true c15
                    by_cases c16 : (((Go.bits .and .u32 (ji13) 15) + 1) % 4294967296) ≤ 16
                    · rw [if_pos c16] at H
                      have c16b0 := eq_true c16
                      have c16b1 : decide ((((Go.bits .and .u32 (ji13) 15) + 1) % 4294967296) ≤ 16) = true := decide_eq_true c16
                      by_cases c17 : x4_2.size + ((⟨#[48, 49, 50, 51, 52, 53, 54, 55, 56, 57, 97, 98, 99, 100, 101, 102]⟩ : ByteArray).extract ((Go.bits .and .u32 (ji13) 15) : Int).toNat ((((Go.bits .and .u32 (ji13) 15) + 1) % 4294967296) : Int).toNat).size ≤ 9223372036854775807
                      · rw [if_pos c17] at H
                        have c17b0 := eq_true c17
                        have c17b1 : decide (x4_2.size + ((⟨#[48, 49, 50, 51, 52, 53, 54, 55, 56, 57, 97, 98, 99, 100, 101, 102]⟩ : ByteArray).extract ((Go.bits .and .u32 (ji13) 15) : Int).toNat ((((Go.bits .and .u32 (ji13) 15) + 1) % 4294967296) : Int).toNat).size ≤ 9223372036854775807) = true := decide_eq_true c17
                        try have c17b2 : (9223372036854775807 < x4_2.size + ((⟨#[48, 49, 50, 51, 52, 53, 54, 55, 56, 57, 97, 98, 99, 100, 101, 102]⟩ : ByteArray).extract ((Go.bits .and .u32 (ji13) 15) : Int).toNat ((((Go.bits .and .u32 (ji13) 15) + 1) % 4294967296) : Int).toNat).size) = False := eq_false (Nat.not_lt.2 c17)
                        have H' := Aside0.mk H
                        clear H
                        have hcz18_0 : wr.cell? ⟨gb125, 0, none⟩ = some (.bool a0_0) := (blk_cell BK125.out 0).trans rfl
                        have hcz18_1 : wr.cell? ⟨gb125, 1, none⟩ = some (.int .u32 a0_1) := (blk_cell BK125.out 1).trans rfl
                        have hfz18_0 := blk_frozen BK125.out 0
                        have hfz18_1 := blk_frozen BK125.out 1
                        go_wp2
                        go_roundg k2
                        case measure => have := HJ3.out; have := HK2.out; omega
                        case rel => exact ⟨(x4_2 ++ ((⟨#[48, 49, 50, 51, 52, 53, 54, 55, 56, 57, 97, 98, 99, 100, 101, 102]⟩ : ByteArray).extract ((Go.bits .and .u32 (ji13) 15) : Int).toNat ((((Go.bits .and .u32 (ji13) 15) + 1) % 4294967296) : Int).toNat)), (wrap64 (x5_2 - 4)), (by first | rfl | (simp; done) | (simp only [← hji13] <;> (first | rfl | simp)) | (simp [*]; done)), (by first | rfl | (simp; done) | (simp [*]; done)), H', ⟨by have := HJ3.out; have := HK2.out; omega⟩, ⟨by (with_reducible repeat (first | refine blk_drewN ?_ _ | refine blk_drew ?_ | refine blk_alloc ?_ _)); exact BK125.out⟩, ⟨by repeat (first | (with_reducible first | exact HB.out | apply below_alloc | apply pw_below_drewN | apply below_drew1 | refine below_set ?_ GE125.out) | exact HB.out)⟩⟩
                      · rw [if_neg c17] at H
                        exact absurd H (by simp)
                    · rw [if_neg c16] at H
                      exact absurd H (by simp)
                  · rw [if_neg c15] at H
                    exact absurd H (by simp)
                · rw [if_neg c14] at H
                  exact absurd H (by simp)
              · rw [if_neg c12] at H
                exact absurd H (by simp)
            · rw [if_neg c10] at H
              have c10b0 : decide (0 ≤ x5_2) = false := decide_eq_false c10
              clear c10
              obtain rfl := Option.some.inj H
              go_wp2
              go_ret
              exact ⟨by first | rfl | (simp [errW_none, errW_some] <;> rfl) | (simp [*, errW_none, errW_some] <;> rfl), by repeat (first | (with_reducible first | exact HB.out | apply below_alloc | apply pw_below_drewN | apply below_drew1 | refine below_set ?_ GE125.out) | exact HB.out)⟩
  · replace c3 := Bool.eq_false_iff.mpr c3
    subst c3
    have H1 : (some (⟨#[]⟩ : ByteArray)) = some r := by rw [if_neg (show ¬ (false = true) by decide)] at H; exact H
    clear H
    have H := H1
    clear H1
    obtain rfl := Option.some.inj H
    go_enter Try.func22, Try.ntmps22
    go_wp2_with (first | ((with_reducible refine gate_dst (N := 1) rfl ?_); refine box_event ?hg (N := 1) ?hd (cs := #[.bool a0_0, .int .u32 a0_1]) (t := 24) ?hr ?_; (case hd => rfl); (case hg => rfl); (case hr => first | (go_simp; done) | (go_simp; rfl)); intro gb125 hg w19 hbox hb; have n0_ := Aside0.mk (below_step (by repeat (first | (with_reducible first | exact HB.out | apply below_alloc | apply pw_below_drewN | apply below_drew1) | exact HB.out)) hb); have n1_ := Aside0.mk (hbox); have n2_ := Aside0.mk ((by rw [hg]; exact (below_size (by repeat (first | (with_reducible first | exact HB.out | apply below_alloc | apply pw_below_drewN | apply below_drew1) | exact HB.out))) : w.heap.size ≤ gb125)); have n3_ := Aside0.mk ((by rw [hg]; exact (below_size (by repeat (first | (with_reducible first | exact HB.out | apply below_alloc | apply pw_below_drewN | apply below_drew1) | exact HB.out))) : w.heap.size ≤ gb125)); clear HB; have HB := n0_; have BK125 := n1_; have GW125 := n2_; have GE125 := n3_; clear n0_ n1_ n2_ n3_; clear hb hbox hg; have hcz20_0 : w19.cell? ⟨gb125, 0, none⟩ = some (.bool a0_0) := (blk_cell BK125.out 0).trans rfl; have hcz20_1 : w19.cell? ⟨gb125, 1, none⟩ = some (.int .u32 a0_1) := (blk_cell BK125.out 1).trans rfl; have hfz20_0 := blk_frozen BK125.out 0; have hfz20_1 := blk_frozen BK125.out 1) | ((with_reducible refine gate_callee (f := 17) rfl ?_); refine goesL_ (some 8) rfl rfl Try.func17 (by kernel_rfl) rfl #[.agg #[.bool a0_0, .int .u32 a0_1]] rfl (by (try simp only [List.map_toArray, List.map_cons, List.map_nil]); first | done | rfl | (simp only [List.length_drop, List.length_take]; rfl)) ?_; (with_reducible refine (ident_Right.calls a0_0 a0_1 false _ A2.out).mono ?_); rintro e w21 ⟨rfl, hb⟩; refine ⟨_, rfl, ?_⟩; have n0_ := Aside0.mk (blk_below (g := gb125) (o := .cells #[.bool a0_0, .int .u32 a0_1] 24 (0, 0)) (by (with_reducible repeat (first | refine blk_drewN ?_ _ | refine blk_drew ?_ | refine blk_alloc ?_ _)); exact BK125.out) hb); have n1_ := Aside0.mk (below_step (by repeat (first | (with_reducible first | exact HB.out | apply below_alloc | apply pw_below_drewN | apply below_drew1 | refine below_set ?_ GE125.out) | exact HB.out)) hb); clear BK125; clear HB; have BK125 := n0_; have HB := n1_; clear n0_ n1_; (try clear hb); (try clear hb2); (try clear hk); (try clear hi)))
    go_ret
    exact ⟨by first | rfl | (simp [errW_none, errW_some] <;> rfl) | (simp [*, errW_none, errW_some] <;> rfl), by repeat (first | (with_reducible first | exact HB.out | apply below_alloc | apply pw_below_drewN | apply below_drew1 | refine below_set ?_ GE125.out) | exact HB.out)⟩

end Go.Proofs.Ytcimnghmkhdolaa.P
