/- Of two unlike frames just one wins: the walk through the law, for every three frames. No condition. -/
import Derived.Test.YtcimnghmkhdolaaIdentKeyLib
namespace Go.Proofs.Ytcimnghmkhdolaa.P
open Go.RowKit Go.Proofs.YtcimnghmkhdolaaW.PrintWords Go.Proofs.YtcimnghmkhdolaaW.PrintLast Go.Proofs.YtcimnghmkhdolaaW.PrintMore
set_option linter.unusedVariables false
set_option linter.unusedSimpArgs false
/-- The law's three frames in memory. -/
structure T3 (w W : World) (a : Bool) (n : Int) (r : Bool) (b : Bool) (m : Int) (s : Bool) (c : Bool) (p : Int) (t : Bool) : Prop where
  x : W.heap[w.heap.size]? = some (.cells #[.bool a, .int .u32 n, .bool r] 26 (0, 0))
  y : W.heap[w.heap.size + 1]? = some (.cells #[.bool b, .int .u32 m, .bool s] 26 (0, 0))
  z : W.heap[w.heap.size + 2]? = some (.cells #[.bool c, .int .u32 p, .bool t] 26 (0, 0))
  B : Below w.heap.size w W
theorem T3.below {w W W' : World} {a r b s c t : Bool} {n m p : Int} (h : T3 w W a n r b m s c p t) (hb : Below W.heap.size W W') : T3 w W' a n r b m s c p t := ⟨blk_below h.x hb, blk_below h.y hb, blk_below h.z hb, below_step h.B hb⟩
theorem T3.drew {w W : World} {a r b s c t : Bool} {n m p : Int} (h : T3 w W a n r b m s c p t) : T3 w W.drew a n r b m s c p t := ⟨blk_drew h.x, blk_drew h.y, blk_drew h.z, below_drew1 h.B⟩
theorem T3.cells {w W : World} {a r b s c t : Bool} {n m p : Int} (h : T3 w W a n r b m s c p t) :
    W.cell? ⟨w.heap.size, 0, none⟩ = some (.bool a) ∧ W.cell? ⟨w.heap.size, 1, none⟩ = some (.int .u32 n) ∧ W.cell? ⟨w.heap.size, 2, none⟩ = some (.bool r) ∧
    W.cell? ⟨w.heap.size + 1, 0, none⟩ = some (.bool b) ∧ W.cell? ⟨w.heap.size + 1, 1, none⟩ = some (.int .u32 m) ∧ W.cell? ⟨w.heap.size + 1, 2, none⟩ = some (.bool s) ∧
    W.cell? ⟨w.heap.size + 1 + 1, 0, none⟩ = some (.bool c) ∧ W.cell? ⟨w.heap.size + 1 + 1, 1, none⟩ = some (.int .u32 p) ∧ W.cell? ⟨w.heap.size + 1 + 1, 2, none⟩ = some (.bool t) :=
  ⟨(blk_cell h.x 0).trans rfl, (blk_cell h.x 1).trans rfl, (blk_cell h.x 2).trans rfl, (blk_cell h.y 0).trans rfl, (blk_cell h.y 1).trans rfl, (blk_cell h.y 2).trans rfl, (blk_cell h.z 0).trans rfl, (blk_cell h.z 1).trans rfl, (blk_cell h.z 2).trans rfl⟩
theorem T3.start (w : World) (a : Bool) (n : Int) (r : Bool) (b : Bool) (m : Int) (s : Bool) (c : Bool) (p : Int) (t : Bool) :
    T3 w (((w.alloc (.cells #[.bool a, .int .u32 n, .bool r] 26)).alloc (.cells #[.bool b, .int .u32 m, .bool s] 26)).alloc (.cells #[.bool c, .int .u32 p, .bool t] 26)) a n r b m s c p t :=
  ⟨blk_alloc (blk_alloc (blk_new _ _) _) _, blk_alloc (by simpa using blk_new (w.alloc (.cells #[.bool a, .int .u32 n, .bool r] 26)) (.cells #[.bool b, .int .u32 m, .bool s] 26)) _,
    by simpa using blk_new ((w.alloc (.cells #[.bool a, .int .u32 n, .bool r] 26)).alloc (.cells #[.bool b, .int .u32 m, .bool s] 26)) (.cells #[.bool c, .int .u32 p, .bool t] 26), below_alloc (below_alloc (below_alloc (Below.refl _ _) _) _) _⟩
set_option maxHeartbeats 8000000 in
set_option maxRecDepth 100000 in
theorem One_yes (a : Bool) (n : Int) (r : Bool) (b : Bool) (m : Int) (s : Bool) (c : Bool) (p : Int) (t : Bool) (ab ba bc ac : Bool) (w : World)
    (h1 : bellbuoyref05_Right.f a n = some true) (h2 : bellbuoyref05_Right.f b m = some true) (h3 : bellbuoyref05_Right.f c p = some true)
    (k1 : ident_Wins.f a n r b m s = some ab) (k2 : ident_Wins.f b m s a n r = some ba) (k3 : ident_Wins.f b m s c p t = some bc) (k4 : ident_Wins.f a n r c p t = some ac) (A B C : Int)
    (p1t : ab = true → A < B) (p1f : ab = false → B ≤ A) (p2t : ba = true → B < A) (p2f : ba = false → A ≤ B) (p3t : bc = true → B < C) (p4 : A < C → ac = true) (pi : A = B → a = b ∧ n = m ∧ r = s) (pj : a = b → n = m → r = s → A = B) :
    Calls Try.prog 4 #[.agg #[.bool a, .int .u32 n, .bool r], .agg #[.bool b, .int .u32 m, .bool s], .agg #[.bool c, .int .u32 p, .bool t]] w fun e w' => e = .returned (.bool true) ∧ Below w.heap.size w w' := by
  have H1 := Aside0.mk h1
  have H2 := Aside0.mk h2
  have H3 := Aside0.mk h3
  have J1 := Aside0.mk k1
  have J2 := Aside0.mk k2
  have J3 := Aside0.mk k3
  have J4 := Aside0.mk k4
  have P1t := Aside0.mk p1t
  have P1f := Aside0.mk p1f
  have P2t := Aside0.mk p2t
  have P2f := Aside0.mk p2f
  have P3t := Aside0.mk p3t
  have P4 := Aside0.mk p4
  have PI := Aside0.mk pi
  have PJ := Aside0.mk pj
  clear h1 h2 h3 k1 k2 k3 k4 p1t p1f p2t p2f p3t p4 pi pj
  have hu26 := Try.underlying26
  have hu24 := Try.underlying24
  have K0 := Aside0.mk (T3.start w a n r b m s c p t)
  go_enter Try.func4, Try.ntmps4
  go_wp2_with fail
  (with_reducible refine (bellbuoyref05_Right.calls a n true _ H1.out).mono ?_); rintro e w1 ⟨rfl, hb⟩
  have K1 := Aside0.mk (K0.out.below hb); clear hb
  obtain ⟨c0, c1, c2, c3, c4, c5, c6, c7, c8⟩ := K1.out.cells
  go_wp2_with fail
  (with_reducible refine (bellbuoyref05_Right.calls b m true _ H2.out).mono ?_); rintro e w2 ⟨rfl, hb⟩
  have K2 := Aside0.mk (K1.out.below hb); clear hb c0 c1 c2 c3 c4 c5 c6 c7 c8
  obtain ⟨c0, c1, c2, c3, c4, c5, c6, c7, c8⟩ := K2.out.cells
  go_wp2_with fail
  (with_reducible refine (bellbuoyref05_Right.calls c p true _ H3.out).mono ?_); rintro e w3 ⟨rfl, hb⟩
  have K3 := Aside0.mk (K2.out.below hb); clear hb c0 c1 c2 c3 c4 c5 c6 c7 c8
  obtain ⟨c0, c1, c2, c3, c4, c5, c6, c7, c8⟩ := K3.out.cells
  go_wp2_with fail
  go_region_held3 (fun w' => w'.cell? ⟨w.heap.size, 0, none⟩ = some (.bool a) ∧ w'.cell? ⟨w.heap.size, 1, none⟩ = some (.int .u32 n) ∧ w'.cell? ⟨w.heap.size, 2, none⟩ = some (.bool r) ∧ w'.cell? ⟨w.heap.size + 1, 0, none⟩ = some (.bool b) ∧ w'.cell? ⟨w.heap.size + 1, 1, none⟩ = some (.int .u32 m) ∧ w'.cell? ⟨w.heap.size + 1, 2, none⟩ = some (.bool s)) (go_keep)
    (first
      | (go_at_call 9; (with_reducible refine (ident_Wins.calls a n r b m s ab _ J1.out).mono ?_); rintro e w4 ⟨rfl, hb⟩; have K4 := Aside0.mk (K3.out.drew.below hb); clear hb; obtain ⟨d0, d1, d2, d3, d4, d5, d6, d7, d8⟩ := K4.out.cells)
      | (go_at_call 9; (with_reducible refine (ident_Wins.calls b m s a n r ba _ J2.out).mono ?_); rintro e w5 ⟨rfl, hb⟩; have K5 := Aside0.mk (K4.out.below hb); clear hb; obtain ⟨e0, e1, e2, e3, e4, e5, e6, e7, e8⟩ := K5.out.cells))
  clear c0 c1 c2 c3 c4 c5 c6 c7 c8 d0 d1 d2 d3 d4 d5 d6 d7 d8
  go_wp2_with fail
  go_region_held3 (fun w' => w'.cell? ⟨w.heap.size, 0, none⟩ = some (.bool a) ∧ w'.cell? ⟨w.heap.size, 1, none⟩ = some (.int .u32 n) ∧ w'.cell? ⟨w.heap.size, 2, none⟩ = some (.bool r) ∧ w'.cell? ⟨w.heap.size + 1, 0, none⟩ = some (.bool b) ∧ w'.cell? ⟨w.heap.size + 1, 1, none⟩ = some (.int .u32 m) ∧ w'.cell? ⟨w.heap.size + 1, 2, none⟩ = some (.bool s) ∧ w'.cell? ⟨w.heap.size + 1 + 1, 0, none⟩ = some (.bool c) ∧ w'.cell? ⟨w.heap.size + 1 + 1, 1, none⟩ = some (.int .u32 p) ∧ w'.cell? ⟨w.heap.size + 1 + 1, 2, none⟩ = some (.bool t)) (go_keep)
    (first
      | (go_at_call 9; (with_reducible refine (ident_Wins.calls b m s c p t bc _ J3.out).mono ?_); rintro e w6 ⟨rfl, hb⟩; have K6 := Aside0.mk (K5.out.drew.below hb); clear hb; obtain ⟨d0, d1, d2, d3, d4, d5, d6, d7, d8⟩ := K6.out.cells)
      | (go_at_call 9; (with_reducible refine (ident_Wins.calls a n r c p t ac _ J4.out).mono ?_); rintro e w7 ⟨rfl, hb⟩; have K7 := Aside0.mk (K6.out.below hb); clear hb; obtain ⟨c0, c1, c2, c3, c4, c5, c6, c7, c8⟩ := K7.out.cells))
  clear d0 d1 d2 d3 d4 d5 d6 d7 d8 e0 e1 e2 e3 e4 e5 e6 e7 e8 c0 c1 c2 c3 c4 c5 c6 c7 c8
  go_wp2_with fail
  (with_reducible refine (bellbuoylaw05_live.calls true _ rfl).mono ?_); rintro e w8 ⟨rfl, hb⟩
  have K8 := Aside0.mk (K7.out.below hb); clear hb
  obtain ⟨c0, c1, c2, c3, c4, c5, c6, c7, c8⟩ := K8.out.cells
  go_wp2_with fail
  all_goals
    go_ret
    first
      | exact ⟨rfl, K8.out.B⟩
      | (exfalso
         (first | have x1 := P1t.out (by assumption) | have x1 := P1f.out (Bool.eq_false_iff.2 (by assumption)) | skip)
         (first | have x2 := P2t.out (by assumption) | have x2 := P2f.out (Bool.eq_false_iff.2 (by assumption)) | skip)
         first
           | omega
           | (have x5 := PJ.out (by assumption) (by assumption) (by assumption); omega)
           | (have hh := PI.out (by omega); first | exact absurd hh.1 (by assumption) | exact absurd hh.2.1 (by assumption) | exact absurd hh.2.2 (by assumption)))
      | exact ⟨congrArg (fun v => Ending.returned (Value.bool v)) (P4.out (by have x1 := P1t.out (by assumption); have x3 := P3t.out (by assumption); omega)), K8.out.B⟩
      | skip
set_option maxHeartbeats 8000000 in
set_option maxRecDepth 100000 in
theorem One_no1 (a : Bool) (n : Int) (r : Bool) (b : Bool) (m : Int) (s : Bool) (c : Bool) (p : Int) (t : Bool) (w : World) (h1 : bellbuoyref05_Right.f a n = some false) :
    Calls Try.prog 4 #[.agg #[.bool a, .int .u32 n, .bool r], .agg #[.bool b, .int .u32 m, .bool s], .agg #[.bool c, .int .u32 p, .bool t]] w fun e w' => e = .returned (.bool true) ∧ Below w.heap.size w w' := by
  have H1 := Aside0.mk h1
  clear h1
  have hu26 := Try.underlying26
  have hu24 := Try.underlying24
  have K0 := Aside0.mk (T3.start w a n r b m s c p t)
  go_enter Try.func4, Try.ntmps4
  go_wp2_with fail
  (with_reducible refine (bellbuoyref05_Right.calls a n false _ H1.out).mono ?_); rintro e w1 ⟨rfl, hb⟩
  have K1 := Aside0.mk (K0.out.below hb); clear hb
  go_wp2_with fail
  (with_reducible refine (bellbuoylaw05_live.calls true _ rfl).mono ?_); rintro e w8 ⟨rfl, hb⟩
  go_wp2_with fail
  go_ret
  exact ⟨rfl, below_step K1.out.B hb⟩
set_option maxHeartbeats 8000000 in
set_option maxRecDepth 100000 in
theorem One_no2 (a : Bool) (n : Int) (r : Bool) (b : Bool) (m : Int) (s : Bool) (c : Bool) (p : Int) (t : Bool) (w : World) (h1 : bellbuoyref05_Right.f a n = some true) (h2 : bellbuoyref05_Right.f b m = some false) :
    Calls Try.prog 4 #[.agg #[.bool a, .int .u32 n, .bool r], .agg #[.bool b, .int .u32 m, .bool s], .agg #[.bool c, .int .u32 p, .bool t]] w fun e w' => e = .returned (.bool true) ∧ Below w.heap.size w w' := by
  have H1 := Aside0.mk h1
  have H2 := Aside0.mk h2
  clear h1 h2
  have hu26 := Try.underlying26
  have hu24 := Try.underlying24
  have K0 := Aside0.mk (T3.start w a n r b m s c p t)
  go_enter Try.func4, Try.ntmps4
  go_wp2_with fail
  (with_reducible refine (bellbuoyref05_Right.calls a n true _ H1.out).mono ?_); rintro e w1 ⟨rfl, hb⟩
  have K1 := Aside0.mk (K0.out.below hb); clear hb
  obtain ⟨c0, c1, c2, c3, c4, c5, c6, c7, c8⟩ := K1.out.cells
  go_wp2_with fail
  (with_reducible refine (bellbuoyref05_Right.calls b m false _ H2.out).mono ?_); rintro e w2 ⟨rfl, hb⟩
  have K2 := Aside0.mk (K1.out.below hb); clear hb c0 c1 c2 c3 c4 c5 c6 c7 c8
  go_wp2_with fail
  (with_reducible refine (bellbuoylaw05_live.calls true _ rfl).mono ?_); rintro e w8 ⟨rfl, hb⟩
  go_wp2_with fail
  go_ret
  exact ⟨rfl, below_step K2.out.B hb⟩
set_option maxHeartbeats 8000000 in
set_option maxRecDepth 100000 in
theorem One_no3 (a : Bool) (n : Int) (r : Bool) (b : Bool) (m : Int) (s : Bool) (c : Bool) (p : Int) (t : Bool) (w : World) (h1 : bellbuoyref05_Right.f a n = some true) (h2 : bellbuoyref05_Right.f b m = some true) (h3 : bellbuoyref05_Right.f c p = some false) :
    Calls Try.prog 4 #[.agg #[.bool a, .int .u32 n, .bool r], .agg #[.bool b, .int .u32 m, .bool s], .agg #[.bool c, .int .u32 p, .bool t]] w fun e w' => e = .returned (.bool true) ∧ Below w.heap.size w w' := by
  have H1 := Aside0.mk h1
  have H2 := Aside0.mk h2
  have H3 := Aside0.mk h3
  clear h1 h2 h3
  have hu26 := Try.underlying26
  have hu24 := Try.underlying24
  have K0 := Aside0.mk (T3.start w a n r b m s c p t)
  go_enter Try.func4, Try.ntmps4
  go_wp2_with fail
  (with_reducible refine (bellbuoyref05_Right.calls a n true _ H1.out).mono ?_); rintro e w1 ⟨rfl, hb⟩
  have K1 := Aside0.mk (K0.out.below hb); clear hb
  obtain ⟨c0, c1, c2, c3, c4, c5, c6, c7, c8⟩ := K1.out.cells
  go_wp2_with fail
  (with_reducible refine (bellbuoyref05_Right.calls b m true _ H2.out).mono ?_); rintro e w2 ⟨rfl, hb⟩
  have K2 := Aside0.mk (K1.out.below hb); clear hb c0 c1 c2 c3 c4 c5 c6 c7 c8
  obtain ⟨c0, c1, c2, c3, c4, c5, c6, c7, c8⟩ := K2.out.cells
  go_wp2_with fail
  (with_reducible refine (bellbuoyref05_Right.calls c p false _ H3.out).mono ?_); rintro e w3 ⟨rfl, hb⟩
  have K3 := Aside0.mk (K2.out.below hb); clear hb c0 c1 c2 c3 c4 c5 c6 c7 c8
  go_wp2_with fail
  (with_reducible refine (bellbuoylaw05_live.calls true _ rfl).mono ?_); rintro e w8 ⟨rfl, hb⟩
  go_wp2_with fail
  go_ret
  exact ⟨rfl, below_step K3.out.B hb⟩
theorem askV_inj {r s : Bool} (h : askV r = askV s) : r = s := by cases r <;> cases s <;> first | rfl | cases h
theorem keyV_inj {a : Bool} {n : Int} {r b : Bool} {m : Int} {s : Bool} (n0 : 0 ≤ n) (m0 : 0 ≤ m) (h1 : rightV a n = true) (h2 : rightV b m = true) (h : keyV a n r = keyV b m s) : a = b ∧ n = m ∧ r = s := by
  have x := askV_range r
  have y := askV_range s
  unfold keyV at h
  cases a <;> cases b
  · have := right_std n0 h1; have := right_std m0 h2
    simp only [Bool.false_eq_true, if_false] at h
    exact ⟨rfl, by omega, askV_inj (by omega)⟩
  · have := right_std n0 h1; have := right_ext m0 h2
    simp only [Bool.false_eq_true, if_false, if_true] at h
    omega
  · have := right_ext n0 h1; have := right_std m0 h2
    simp only [Bool.false_eq_true, if_false, if_true] at h
    omega
  · have := right_ext n0 h1; have := right_ext m0 h2
    simp only [if_true] at h
    exact ⟨rfl, by omega, askV_inj (by omega)⟩
theorem IdentOne_walk (a0_0 : Bool) (a0_1 : Int) (a0_2 a1_0 : Bool) (a1_1 : Int) (a1_2 a2_0 : Bool) (a2_1 : Int) (a2_2 : Bool) (w : World) (w0_1 : (Lit.int .u32 a0_1).wf = true) (w1_1 : (Lit.int .u32 a1_1).wf = true) (w2_1 : (Lit.int .u32 a2_1).wf = true) :
    Calls Try.prog 4 #[.agg #[.bool a0_0, .int .u32 a0_1, .bool a0_2], .agg #[.bool a1_0, .int .u32 a1_1, .bool a1_2], .agg #[.bool a2_0, .int .u32 a2_1, .bool a2_2]] w fun e w' => e = .returned (.bool true) ∧ Below w.heap.size w w' := by
  have b0 := (wf32 w0_1).1
  have b1 := (wf32 w1_1).1
  have b2 := (wf32 w2_1).1
  cases h1 : rightV a0_0 a0_1 with
  | false => exact One_no1 _ _ _ _ _ _ _ _ _ w (by rw [refRight_eq _ _ b0, h1])
  | true =>
    cases h2 : rightV a1_0 a1_1 with
    | false => exact One_no2 _ _ _ _ _ _ _ _ _ w (by rw [refRight_eq _ _ b0, h1]) (by rw [refRight_eq _ _ b1, h2])
    | true =>
      cases h3 : rightV a2_0 a2_1 with
      | false => exact One_no3 _ _ _ _ _ _ _ _ _ w (by rw [refRight_eq _ _ b0, h1]) (by rw [refRight_eq _ _ b1, h2]) (by rw [refRight_eq _ _ b2, h3])
      | true =>
        refine One_yes _ _ _ _ _ _ _ _ _ (decide (keyV a0_0 a0_1 a0_2 < keyV a1_0 a1_1 a1_2)) (decide (keyV a1_0 a1_1 a1_2 < keyV a0_0 a0_1 a0_2)) (decide (keyV a1_0 a1_1 a1_2 < keyV a2_0 a2_1 a2_2)) (decide (keyV a0_0 a0_1 a0_2 < keyV a2_0 a2_1 a2_2)) w (by rw [refRight_eq _ _ b0, h1]) (by rw [refRight_eq _ _ b1, h2]) (by rw [refRight_eq _ _ b2, h3])
          (by rw [Wins_eq _ _ _ _ _ _ b0 b1, h1, h2]; rfl) (by rw [Wins_eq _ _ _ _ _ _ b1 b0, h1, h2]; rfl) (by rw [Wins_eq _ _ _ _ _ _ b1 b2, h2, h3]; rfl) (by rw [Wins_eq _ _ _ _ _ _ b0 b2, h1, h3]; rfl)
          (keyV a0_0 a0_1 a0_2) (keyV a1_0 a1_1 a1_2) (keyV a2_0 a2_1 a2_2) (fun h => of_decide_eq_true h) (fun h => by have := of_decide_eq_false h; omega) (fun h => of_decide_eq_true h) (fun h => by have := of_decide_eq_false h; omega) (fun h => of_decide_eq_true h) (fun h => decide_eq_true h)
          (fun h => keyV_inj b0 b1 h1 h2 h) (fun x y z => by rw [x, y, z])
end Go.Proofs.Ytcimnghmkhdolaa.P
