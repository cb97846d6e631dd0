/- frame.Body by the program, of a frame that can be and has a short identifier. Conditions: those that each lemma names. -/
import Derived.Test.YtjhnkncmdeineaaDoorBodBody
namespace Go.Proofs.YtjhnkncmdeineaaDoor.P
open Go.RowKit Go.Proofs.YtjhnkncmdeineaaDoorW.PrintWords Go.Proofs.YtjhnkncmdeineaaDoorW.PrintLast Go.Proofs.YtjhnkncmdeineaaDoorW.PrintMore Go.Shelf
set_option linter.unusedVariables false
set_option linter.unusedSimpArgs false
set_option maxRecDepth 100000 in
set_option maxHeartbeats 16000000 in
theorem Body_false (n : Int) (r : Bool) (u : Nat) (x : Nat → Int) (h : Good false n r (u : Int) x) (w : World) (hd : Div w) :
    Calls Tryd.prog 5 #[.agg (frc false n r (u : Int) x)] w fun e' W' => (∃ v l, e' = .returned v ∧ Kd.R (Kd.int .u8) 5 W' w.heap.size (fun _ => True) v l ∧ (∃ t, l = 0 :: (bitsV false n r ++ t)) ∧ 34 ≤ l.length ∧ l.length ≤ 200) ∧ Below w.heap.size w W' := by
  have hu24 := Tryd.underlying24
  have hu25 := Tryd.underlying25
  have hu27 := Tryd.underlying27
  have RC := Aside0.mk (fun w => Right_calls false n r (u : Int) x h w)
  have BC := Aside0.mk (fun w => ident_Bits.calls 70 false n r (bitsV false n r) w (Bits_eq false n r h.n0 70 (by decide)))
  have HL := Aside0.mk (show u ≤ 8 by have := h.l0; omega)
  have OC : Aside0 (∀ w, Calls Tryd.prog 10 #[.int .u64 (u : Int), .int .i64 4] w fun e w' => ∃ v0_ : Value, e = .returned (v0_) ∧ Kd.R (Kd.int .u8) 5 w' w.heap.size (fun _ => True) v0_ (bitL (u : Int) 4) ∧ Below w.heap.size w w') := ⟨fun w => strand_Of.calls 70 (u : Int) ((4 : Nat) : Int) (bitL (u : Int) 4) w (Of_eq 4 (by decide) (by decide) (u : Int) (by omega) (by have := HL.out; omega) 70 (by decide))⟩
  have HX := Aside0.mk h.yb
  have BL := Aside0.mk (show (bitsV false n r).length = 13 by rw [bitsV_len (good_right h)]; rfl)
  have KF := Aside0.mk (blk_new w (.cells (frc false n r (u : Int) x) 27))
  have B := Aside0.mk (below_alloc (Below.refl w.heap.size w) (.cells (frc false n r (u : Int) x) 27))
  have hL : IntKind.u64.wrap (u : Int) = (u : Int) := by rw [u64w]; have := HL.out; omega
  have HD := Aside0.mk hd
  clear h hd
  obtain ⟨c0, c1, c2, c3, c4, c5, c6, c7, c8, c9, c10, c11⟩ := cells12 KF.out
  simp only [frc] at c0 c1 c2 c3 c4 c5 c6 c7 c8 c9 c10 c11 B RC ⊢
  go_enter Tryd.func5, Tryd.ntmps5
  go_wp2_with fail
  (with_reducible refine (RC.out _).mono ?_)
  rintro e' W1 ⟨rfl, hb⟩
  have K1 := Aside0.mk (blk_below KF.out hb)
  have B1 := Aside0.mk (below_step B.out hb)
  have D1 := Aside0.mk (Div.below HD.out B1.out)
  have HBW := Aside0.mk (Below.refl W1.heap.size W1)
  clear hb KF B RC c0 c1 c2 c3 c4 c5 c6 c7 c8 c9 c10 c11 HD
  obtain ⟨c0, c1, c2, c3, c4, c5, c6, c7, c8, c9, c10, c11⟩ := cells12 K1.out
  clear c4 c5 c6 c7 c8 c9 c10 c11
  go_wp2_with fail
  have hmk := make1
  have ZA : Aside0 (∀ (j : Nat) (y : Int), ([0] : List Int)[j]? = some y → (#[.int .u8 0] : Array Value)[0 + j]? = some (.int .u8 y)) := ⟨fun j y hj => by
    match j, hj with
    | 0, hj => cases hj; rfl
    | j + 1, hj => simp at hj⟩
  have ZC : Aside0 (∀ (j : Nat) (y : Int), ([0] : List Int)[j]? = some y → (#[.int .u8 0] : Array Value)[0 + j]? = some (.int .u8 y)) := ⟨fun j y hj => by
    match j, hj with
    | 0, hj => cases hj; rfl
    | 1, hj => first | (cases hj; rfl) | simp at hj
    | j + 2, hj => simp at hj⟩
  go_region_held3 (fun w' => w'.cell? ⟨w.heap.size, 0, none⟩ = some (.bool false) ∧ w'.cell? ⟨w.heap.size, 1, none⟩ = some (.int .u32 n) ∧ w'.cell? ⟨w.heap.size, 2, none⟩ = some (.bool r) ∧ w'.cell? ⟨w.heap.size, 3, none⟩ = some (.int .i64 (u : Int))) (go_keep)
    (first
      | (go_at_call 9; (with_reducible refine (BC.out _).mono ?_); rintro e' w9 ⟨v, rfl, hR, hb⟩; obtain ⟨A9, q9, ev, hc, hC⟩ := Kd.R_reads hR; subst ev; have HB9 := Aside0.mk hb; have RY9 := Aside0.mk hC; have mB : Aside0 (Below W1.heap.size W1 w9) := ⟨below_step (by (repeat (first | with_reducible exact HBW.out | with_reducible refine below_drew1 ?_ | with_reducible refine below_alloc ?_ _))) hb⟩; clear hR hb hC hc HBW c0 c1 c2 c3; have HBW := mB; clear mB; have KN9 := blk_below K1.out HBW.out; obtain ⟨c0, c1, c2, c3, c4, c5, c6, c7, c8, c9, c10, c11⟩ := cells12 KN9; clear c4 c5 c6 c7 c8 c9 c10 c11 KN9)
      | (go_at_call 10; (with_reducible refine (OC.out _).mono ?_); rintro e' w10 ⟨v, rfl, hR, hb⟩; obtain ⟨A10, q10, ev, hc, hC⟩ := Kd.R_reads hR; subst ev; have HB10 := Aside0.mk hb; have RY10 := Aside0.mk hC; have mB : Aside0 (Below W1.heap.size W1 w10) := ⟨below_step (by (repeat (first | with_reducible exact HBW.out | with_reducible refine below_drew1 ?_ | with_reducible refine below_alloc ?_ _))) hb⟩; clear hR hb hC hc HBW c0 c1 c2 c3; have HBW := mB; clear mB; have KN10 := blk_below K1.out HBW.out; obtain ⟨c0, c1, c2, c3, c4, c5, c6, c7, c8, c9, c10, c11⟩ := cells12 KN10; clear c4 c5 c6 c7 c8 c9 c10 c11 KN10)
      | (go_at_call 8; (with_reducible refine Calls.mono (Concat_four _ _ [0] (bitsV false n r) [0] (bitL (u : Int) 4) _ _ _ _ _ _ _ _ _ _ _ _ (by first | with_reducible exact blk_new _ _ | with_reducible exact blk_new1 _ _ | with_reducible exact blk_new2 _ _ _) ?_ ?_ ?_ ?_ ?_ ?_ ?_ ?_ ?_ ?_) ?_); (focus (refine C_blk (t := 5) (cs := #[.int .u8 0]) ?_ 0 1 [0] rfl (by decide) ZA.out; (repeat (first | with_reducible exact blk_new _ _ | with_reducible exact blk_new1 _ _ | with_reducible exact blk_new2 _ _ _ | with_reducible refine blk_drew ?_ | with_reducible refine blk_alloc ?_ _ | with_reducible refine blk_below ?_ HB10.out | with_reducible refine blk_below ?_ HB9.out)))); (focus (repeat (first | with_reducible exact RY9.out | with_reducible exact RY10.out | with_reducible refine Kd.C_below ?_ HB10.out | with_reducible refine Kd.C_below ?_ HB9.out | with_reducible refine Kd.C_below ?_ (below_alloc (Below.refl _ _) _) | with_reducible refine Kd.C_below ?_ (below_drew1 (Below.refl _ _))))); (focus (refine C_blk (t := 5) (cs := #[.int .u8 0]) ?_ 0 1 [0] rfl (by decide) ZC.out; (repeat (first | with_reducible exact blk_new _ _ | with_reducible exact blk_new1 _ _ | with_reducible exact blk_new2 _ _ _ | with_reducible refine blk_drew ?_ | with_reducible refine blk_alloc ?_ _ | with_reducible refine blk_below ?_ HB10.out | with_reducible refine blk_below ?_ HB9.out)))); (focus (repeat (first | with_reducible exact RY9.out | with_reducible exact RY10.out | with_reducible refine Kd.C_below ?_ HB10.out | with_reducible refine Kd.C_below ?_ HB9.out | with_reducible refine Kd.C_below ?_ (below_alloc (Below.refl _ _) _) | with_reducible refine Kd.C_below ?_ (below_drew1 (Below.refl _ _))))); rfl; rfl; rfl; rfl; decide; exact ⟨by decide, by have := BL.out; omega, by decide, by rw [bitL_len]; decide⟩; rintro e' w8 ⟨v8, rfl, hR, hb⟩; have mB : Aside0 (Below W1.heap.size W1 w8) := ⟨below_step (by (repeat (first | with_reducible exact HBW.out | with_reducible refine below_drew1 ?_ | with_reducible refine below_alloc ?_ _))) hb⟩; have R8 : Aside0 (Kd.R (Kd.int .u8) 5 w8 W1.heap.size (fun _ => True) v8 ([0] ++ (bitsV false n r ++ ([0] ++ bitL (u : Int) 4)))) := ⟨Kd.R_lower hR (show Below W1.heap.size W1 _ from by (repeat (first | with_reducible exact HBW.out | with_reducible refine below_drew1 ?_ | with_reducible refine below_alloc ?_ _))).size⟩; clear hR hb HBW HB9 HB10 RY9 RY10 c0 c1 c2 c3; have HBW := mB; clear mB; have KN8 := blk_below K1.out HBW.out; obtain ⟨c0, c1, c2, c3, c4, c5, c6, c7, c8, c9, c10, c11⟩ := cells12 KN8; clear c4 c5 c6 c7 c8 c9 c10 c11 KN8))
  all_goals (
    by_cases hr : r = true
    · have SC := Aside0.mk (seal_l _ v8 _ w8 R8.out (by simp) (by simp only [List.length_append, BL.out, bitL_len]; decide) (Div.below D1.out HBW.out))
      go_wp2_with fail
      (with_reducible refine SC.out.mono ?_)
      rintro e' w12 ⟨v12, rfl, ⟨cs, hcs, hR⟩, hb⟩
      have FR := Aside0.mk (Kd.R_lower hR (Nat.le_trans B1.out.size HBW.out.size))
      have FB := Aside0.mk (below_step B1.out (below_step HBW.out hb))
      have FC := Aside0.mk hcs
      clear hR hb hcs SC
      go_wp2
      go_ret
      have hf := body_form false n r ([0] ++ bitL (u : Int) 4) cs
      refine ⟨⟨_, _, rfl, FR.out, ⟨_, hf⟩, ?_, ?_⟩, FB.out⟩
      · simp only [List.length_append, List.length_map, BL.out, bitL_len, FC.out]; decide
      · simp only [List.length_append, List.length_map, BL.out, bitL_len, FC.out]; decide
    · have hr : r = false := Bool.eq_false_iff.2 hr
      have h8 : IntKind.i64.wrap (8 * (u : Int)) = 8 * (u : Int) := by rw [IntKind.wrap_i64]; have := HL.out; omega
      have q0 : (0 : Int) ≤ (u : Int) := by omega
      have q1 : (u : Int) ≤ 8 := by have := HL.out; omega
      have UC : Aside0 (∀ W, Below W1.heap.size W1 W → Calls Tryd.prog 11 #[.slice (some ⟨w.heap.size, 4, none⟩) u 8, .int .i64 (8 * (u : Int))] W fun e W' => ∃ A' c data, e = .returned (.slice A' (8 * u) c) ∧ (Kd.int .u8).C W' A' (8 * u) data ∧ Below W.heap.size W W') := ⟨fun W hB => by
        have hl : ((List.range u).map x).length = u := by simp
        have h := Unpack_any (some ⟨w.heap.size, 4, none⟩) 8 ((List.range u).map x) (fun y hy => by
          obtain ⟨j, hj, rfl⟩ := List.mem_map.1 hy
          rw [List.mem_range] at hj
          exact HX.out j (by have := HL.out; omega)) (by rw [hl]; exact HL.out) W (by rw [hl]; exact data_C (blk_below K1.out hB) HL.out)
        rw [hl] at h
        exact h⟩
      have LB : Aside0 (([0] ++ (bitsV false n r ++ ([0] ++ bitL (u : Int) 4))).length = 19) := ⟨by simp only [List.length_append, BL.out, bitL_len]; rfl⟩
      have LBB : Aside0 ((([0] ++ (bitsV false n r ++ ([0] ++ bitL (u : Int) 4))).length + 8 * u) * 1 ≤ 140737488355328) := ⟨by rw [LB.out]; have := HL.out; omega⟩
      go_wp2_with fail
      clear c0 c1 c2
      go_region_held3 (fun w' => w'.cell? ⟨w.heap.size, 3, none⟩ = some (.int .i64 (u : Int))) (go_keep)
        (first
          | (go_at_call 11; (with_reducible refine (UC.out _ (by (repeat (first | with_reducible exact HBW.out | with_reducible refine below_drew1 ?_ | with_reducible refine below_alloc ?_ _)))).mono ?_); rintro e' w11 ⟨A11, q11, data, rfl, hC, hb⟩; have RY11 := Aside0.mk hC; have R11 : Aside0 (Kd.R (Kd.int .u8) 5 w11 W1.heap.size (fun _ => True) v8 ([0] ++ (bitsV false n r ++ ([0] ++ bitL (u : Int) 4)))) := ⟨Kd.R_below (by first | exact R8.out | exact Kd.R_drew R8.out) hb⟩; have mB : Aside0 (Below W1.heap.size W1 w11) := ⟨below_step (by (repeat (first | with_reducible exact HBW.out | with_reducible refine below_drew1 ?_ | with_reducible refine below_alloc ?_ _))) hb⟩; clear hC hb HBW UC R8 c3; have HBW := mB; clear mB; have c3 : w11.cell? ⟨w.heap.size, 3, none⟩ = some (.int .i64 (u : Int)) := (blk_cell (blk_below K1.out HBW.out) 3).trans rfl)
          | (refine Kd.R_append_rows_step (Kd.int .u8) (w0 := W1) W1.heap.size (by rfl) (.tmp 30) (.tmp 38) 29 5 (.int .u8 0) 1 rfl Tryd.underlying29 info5u rfl (by decide) (by decide) _ ([0] ++ (bitsV false n r ++ ([0] ++ bitL (u : Int) 4))) data A11 (8 * u) q11 (fun _ => True) (fun _ => False) rfl rfl R11.out RY11.out (fun _ _ h => h) (fun _ h => h.elim) (fun _ _ => trivial) HBW.out HBW.out.size LBB.out ?_; intro v13 w13 hR hb hg hat; have R13 := Aside0.mk (show Kd.R (Kd.int .u8) 5 w13 W1.heap.size (fun _ => True) v13 (([0] ++ (bitsV false n r ++ ([0] ++ bitL (u : Int) 4))) ++ data) from hR); have mB := Aside0.mk hb; have DL := Aside0.mk (show data.length = 8 * u from RY11.out.1); clear hR hb hg hat HBW R11 RY11 c3; have HBW := mB; clear mB; have c3 : w13.cell? ⟨w.heap.size, 3, none⟩ = some (.int .i64 (u : Int)) := (blk_cell (blk_below K1.out HBW.out) 3).trans rfl))
      have SC := Aside0.mk (seal_l _ v13 _ w13 R13.out (by simp) (by rw [List.length_append, LB.out, DL.out]; have := HL.out; omega) (Div.below D1.out HBW.out))
      go_wp2_with fail
      (with_reducible refine SC.out.mono ?_)
      rintro e' w12 ⟨v12, rfl, ⟨cs, hcs, hR⟩, hb⟩
      have FR := Aside0.mk (Kd.R_lower hR (Nat.le_trans B1.out.size HBW.out.size))
      have FB := Aside0.mk (below_step B1.out (below_step HBW.out hb))
      have FC := Aside0.mk hcs
      clear hR hb hcs SC
      go_wp2
      go_ret
      have hf := body_form false n r (([0] ++ bitL (u : Int) 4) ++ data) cs
      have he : [0] ++ (bitsV false n r ++ (([0] ++ bitL (u : Int) 4) ++ data)) = ([0] ++ (bitsV false n r ++ ([0] ++ bitL (u : Int) 4))) ++ data := by simp only [List.append_assoc]
      rw [he] at hf
      refine ⟨⟨_, _, rfl, FR.out, ⟨_, hf⟩, ?_, ?_⟩, FB.out⟩
      · rw [List.length_append, List.length_map, List.length_append, LB.out, FC.out]; omega
      · rw [List.length_append, List.length_map, List.length_append, LB.out, FC.out, DL.out]; have := HL.out; omega)
theorem Body_calls (e : Bool) (n : Int) (r : Bool) (L : Int) (x : Nat → Int) (h : Good e n r L x) (w : World) (hd : Div w) :
    Calls Tryd.prog 5 #[.agg (frc e n r L x)] w fun e' W' => (∃ v l, e' = .returned v ∧ Kd.R (Kd.int .u8) 5 W' w.heap.size (fun _ => True) v l ∧ (∃ t, l = 0 :: (bitsV e n r ++ t)) ∧ 34 ≤ l.length ∧ l.length ≤ 200) ∧ Below w.heap.size w W' := by
  obtain ⟨u, rfl⟩ : ∃ u : Nat, L = (u : Int) := ⟨L.toNat, by have := h.l0; omega⟩
  cases e
  · exact Body_false n r u x h w hd
  · exact Body_true n r u x h w hd
end Go.Proofs.YtjhnkncmdeineaaDoor.P
