/- Whether any config can be, how long nodes wait, and in how many ticks one is master: the walk and the plain law. Condition: the numbers are of their kinds. -/
import Derived.Test.YtcgkbbfnlbjblaaRankLive2
namespace Go.Proofs.Ytcgkbbfnlbjblaa.P
open Go.RowKit Go.Proofs.YtcgkbbfnlbjblaaW.PrintWords Go.Proofs.YtcgkbbfnlbjblaaW.PrintLast Go.Proofs.YtcgkbbfnlbjblaaW.PrintMore
set_option linter.unusedVariables false
set_option linter.unusedSimpArgs false
theorem RefRight_eq (b s p : Int) : bellbuoyref21_Right.f b s p = some (rightB b s p) := by
  unfold bellbuoyref21_Right.f rightB
  by_cases h1 : 1 ≤ p <;> by_cases h2 : p ≤ 1000 <;> by_cases h3 : 1 ≤ s <;> by_cases h4 : s ≤ 1000 <;> by_cases h5 : p ≤ b <;> simp [h1, h2, h3, h4, h5]
theorem RefWait_eq (b s p r : Int) : bellbuoyref21_Wait.f b s p r = some (waitV b s p r) := by
  unfold bellbuoyref21_Wait.f
  rw [RefRight_eq]
  simp only [Option.bind_some]
  cases h1 : rightB b s p
  · have ew : waitV b s p r = 0 := if_neg (by rw [h1]; simp)
    rw [ew, if_neg (by decide)]
  · have a := right_of h1
    by_cases h2 : 0 ≤ r ∧ r ≤ 31
    · have c := mul_range h2 ⟨a.2.2.1, a.2.2.2.1⟩
      have ew : waitV b s p r = b + r * s := if_pos ⟨h1, decide_eq_true h2⟩
      rw [ew, if_pos rfl, if_neg (by omega), if_neg (by omega), i64w (r * s) (by omega) (by omega), i64w (b + r * s) (by omega) (by omega)]
    · have e : rankB r = false := decide_eq_false h2
      have ew : waitV b s p r = 0 := if_neg (by rw [e]; simp)
      rw [ew, if_pos rfl]
      by_cases h3 : r < 0
      · rw [if_pos h3]
      · rw [if_neg h3, if_pos (by omega)]
def winV (b s p n m : Int) : Int := if rightB b s p = true ∧ (1 ≤ n ∧ n ≤ 32) ∧ 0 ≤ m ∧ m ≤ 100 then b + (n - 1) * s + (m + 3) * p + 4 else 0
theorem win_num {b s p n m : Int} (h : rightB b s p = true) (hn : 1 ≤ n ∧ n ≤ 32) (hm : 0 ≤ m ∧ m ≤ 100) : wrap64 (wrap64 (waitV b s p (n - 1) + wrap64 (wrap64 (m + 3) * p)) + 4) = b + (n - 1) * s + (m + 3) * p + 4 ∧ 1 ≤ waitV b s p (n - 1) := by
  have a := right_of h
  have c := mul_range (r := n - 1) (by omega) ⟨a.2.2.1, a.2.2.2.1⟩
  have e : waitV b s p (n - 1) = b + (n - 1) * s := if_pos ⟨h, decide_eq_true (by omega)⟩
  have q0 : 0 ≤ (m + 3) * p := Int.mul_nonneg (by omega) (by omega)
  have q1 : (m + 3) * p ≤ 103 * p := Int.mul_le_mul_of_nonneg_right (by omega) (by omega)
  rw [e, i64w (m + 3) (by omega) (by omega), i64w ((m + 3) * p) (by omega) (by omega), i64w (b + (n - 1) * s + (m + 3) * p) (by omega) (by omega), i64w (b + (n - 1) * s + (m + 3) * p + 4) (by omega) (by omega)]
  omega
theorem Window_eq (b s p n m : Int) (n0 : -9223372036854775808 ≤ n) (n1 : n ≤ 9223372036854775807) : rank_Window.f b s p n m = some (winV b s p n m) := by
  unfold rank_Window.f winV
  rw [Wait_eq, within_eq]
  simp only [Option.bind_some]
  cases h1 : rightB b s p
  · have e : waitV b s p (wrap64 (n - 1)) = 0 := if_neg (by rw [h1]; simp)
    rw [e, if_pos rfl, if_neg (by simp)]
  · by_cases h2 : 1 ≤ n ∧ n ≤ 32
    · rw [i64w (n - 1) (by omega) (by omega)]
      by_cases h3 : 0 ≤ m ∧ m ≤ 100
      · have w := win_num h1 h2 h3
        rw [if_neg (by omega), if_pos (decide_eq_true h3), if_pos ⟨rfl, h2, h3⟩, w.1]
      · have w := win_num h1 h2 (m := 0) (by omega)
        rw [if_neg (by omega), if_neg (by simpa using h3), if_neg (fun q => h3 q.2.2)]
    · have hr : rankB (wrap64 (n - 1)) = false := decide_eq_false (by
        unfold wrap64
        omega)
      have e : waitV b s p (wrap64 (n - 1)) = 0 := if_neg (by rw [hr]; simp)
      rw [e, if_pos rfl, if_neg (fun q => h2 q.2.1)]
theorem RefWindow_eq (b s p n m : Int) (n0 : -9223372036854775808 ≤ n) (n1 : n ≤ 9223372036854775807) : bellbuoyref21_Window.f b s p n m = some (winV b s p n m) := by
  unfold bellbuoyref21_Window.f
  rw [RefRight_eq, RefWait_eq]
  simp only [Option.bind_some]
  cases h1 : rightB b s p
  · have ew : winV b s p n m = 0 := if_neg (by rw [h1]; simp)
    rw [ew, if_neg (by decide)]
  · rw [if_pos rfl]
    by_cases h2 : 1 ≤ n ∧ n ≤ 32
    · rw [if_neg (by omega), if_neg (by omega), i64w (n - 1) (by omega) (by omega)]
      by_cases h3 : 0 ≤ m ∧ m ≤ 100
      · have w := win_num h1 h2 h3
        have ew : winV b s p n m = b + (n - 1) * s + (m + 3) * p + 4 := if_pos ⟨h1, h2, h3⟩
        rw [ew, if_neg (by omega), if_neg (by omega), w.1]
      · have ew : winV b s p n m = 0 := if_neg (fun q => h3 q.2.2)
        rw [ew]
        by_cases h4 : m < 0
        · rw [if_pos h4]
        · rw [if_neg h4, if_pos (by omega)]
    · have ew : winV b s p n m = 0 := if_neg (fun q => h2 q.2.1)
      rw [ew]
      by_cases h4 : n < 1
      · rw [if_pos h4]
      · rw [if_neg h4, if_pos (by omega)]
structure Bx (b s p n m : Int) (w W : World) : Prop where
  k1 : W.heap[w.heap.size]? = some (.cells #[.int .i64 b, .int .i64 s, .int .i64 p] 23 (0, 0))
  k2 : W.heap[w.heap.size + 1]? = some (.cells #[.int .i64 n, .int .i64 m] 24 (0, 0))
  B : Below w.heap.size w W
theorem Bx.below {b s p n m : Int} {w W W' : World} (h : Bx b s p n m w W) (hb : Below W.heap.size W W') : Bx b s p n m w W' := ⟨blk_below h.k1 hb, blk_below h.k2 hb, below_step h.B hb⟩
theorem Bx.drew {b s p n m : Int} {w W : World} (h : Bx b s p n m w W) : Bx b s p n m w W.drew := h.below (below_drew1 (Below.refl _ _))
theorem Bx.cells {b s p n m : Int} {w W : World} (h : Bx b s p n m w W) : W.cell? ⟨w.heap.size, 0, none⟩ = some (.int .i64 b) ∧ W.cell? ⟨w.heap.size, 1, none⟩ = some (.int .i64 s) ∧ W.cell? ⟨w.heap.size, 2, none⟩ = some (.int .i64 p) ∧ W.cell? ⟨w.heap.size + 1, 0, none⟩ = some (.int .i64 n) ∧ W.cell? ⟨w.heap.size + 1, 1, none⟩ = some (.int .i64 m) :=
  ⟨(blk_cell h.k1 0).trans rfl, (blk_cell h.k1 1).trans rfl, (blk_cell h.k1 2).trans rfl, (blk_cell h.k2 0).trans rfl, (blk_cell h.k2 1).trans rfl⟩
theorem Bx.made (b s p n m : Int) (w : World) : Bx b s p n m w ((w.alloc (.cells #[.int .i64 b, .int .i64 s, .int .i64 p] 23)).alloc (.cells #[.int .i64 n, .int .i64 m] 24)) :=
  ⟨blk_below (blk_new _ _) (below_alloc (Below.refl _ _) _), by have := blk_new (w.alloc (.cells #[.int .i64 b, .int .i64 s, .int .i64 p] 23)) (.cells #[.int .i64 n, .int .i64 m] 24); rwa [World.size_alloc] at this, below_alloc (below_alloc (Below.refl _ _) _) _⟩
set_option maxHeartbeats 40000000 in
set_option maxRecDepth 100000 in
theorem Waits_core (b s p n m : Int) (w : World) (n0 : -9223372036854775808 ≤ n) (n1 : n ≤ 9223372036854775807) :
    Calls Try.prog 3 #[.agg #[.int .i64 b, .int .i64 s, .int .i64 p], .agg #[.int .i64 n, .int .i64 m]] w fun e w' => e = .returned (.bool true) ∧ Below w.heap.size w w' := by
  have hu23 := Try.underlying23
  have hu24 := Try.underlying24
  have H1 := Aside0.mk (Right_eq b s p)
  have H2 := Aside0.mk (RefRight_eq b s p)
  have H3 := Aside0.mk (Wait_eq b s p n)
  have H4 := Aside0.mk (RefWait_eq b s p n)
  have H5 := Aside0.mk (Window_eq b s p n m n0 n1)
  have H6 := Aside0.mk (RefWindow_eq b s p n m n0 n1)
  generalize rightB b s p = vr at H1 H2
  generalize waitV b s p n = vw at H3 H4
  generalize winV b s p n m = vv at H5 H6
  have q1 : (vr == vr) = true := by simp
  have q2 : (vw == vw) = true := by simp
  have q3 : (vv == vv) = true := by simp
  have BX := Aside0.mk (Bx.made b s p n m w)
  obtain ⟨c0, c1, c2, c3, c4⟩ := BX.out.cells
  clear n0 n1
  go_enter Try.func3, Try.ntmps3
  go_wp2_with fail
  go_region_held3 (fun w' => w'.cell? ⟨w.heap.size, 0, none⟩ = some (.int .i64 b) ∧ w'.cell? ⟨w.heap.size, 1, none⟩ = some (.int .i64 s) ∧ w'.cell? ⟨w.heap.size, 2, none⟩ = some (.int .i64 p) ∧ w'.cell? ⟨w.heap.size + 1, 0, none⟩ = some (.int .i64 n) ∧ w'.cell? ⟨w.heap.size + 1, 1, none⟩ = some (.int .i64 m)) (go_keep)
    (first
      | (go_at_call 8; (with_reducible refine (live_calls _).mono ?_); rintro e w5 ⟨rfl, hb⟩; have n0 : Aside0 (Bx b s p n m w w5) := ⟨(by first | exact BX.out.below hb | exact BX.out.drew.below hb)⟩; clear hb; clear BX; have BX := n0; clear n0; clear c0 c1 c2 c3 c4; obtain ⟨c0, c1, c2, c3, c4⟩ := BX.out.cells)
      | (go_at_call 9; (with_reducible refine (rank_Right.calls b s p _ _ H1.out).mono ?_); rintro e w5 ⟨rfl, hb⟩; have n0 : Aside0 (Bx b s p n m w w5) := ⟨(by first | exact BX.out.below hb | exact BX.out.drew.below hb)⟩; clear hb; clear BX; have BX := n0; clear n0; clear c0 c1 c2 c3 c4; obtain ⟨c0, c1, c2, c3, c4⟩ := BX.out.cells)
      | (go_at_call 11; (with_reducible refine (bellbuoylaw21_plain.calls b s p b s p _ rfl).mono ?_); rintro e w5 ⟨rfl, hb⟩; have n0 : Aside0 (Bx b s p n m w w5) := ⟨(by first | exact BX.out.below hb | exact BX.out.drew.below hb)⟩; clear hb; clear BX; have BX := n0; clear n0; clear c0 c1 c2 c3 c4; obtain ⟨c0, c1, c2, c3, c4⟩ := BX.out.cells)
      | (go_at_call 10; (with_reducible refine (bellbuoyref21_Right.calls b s p _ _ H2.out).mono ?_); rintro e w5 ⟨rfl, hb⟩; have n0 : Aside0 (Bx b s p n m w w5) := ⟨(by first | exact BX.out.below hb | exact BX.out.drew.below hb)⟩; clear hb; clear BX; have BX := n0; clear n0; clear c0 c1 c2 c3 c4; obtain ⟨c0, c1, c2, c3, c4⟩ := BX.out.cells)
      | (go_at_call 12; (with_reducible refine (rank_Wait.calls b s p n _ _ H3.out).mono ?_); rintro e w5 ⟨rfl, hb⟩; have n0 : Aside0 (Bx b s p n m w w5) := ⟨(by first | exact BX.out.below hb | exact BX.out.drew.below hb)⟩; clear hb; clear BX; have BX := n0; clear n0; clear c0 c1 c2 c3 c4; obtain ⟨c0, c1, c2, c3, c4⟩ := BX.out.cells)
      | (go_at_call 13; (with_reducible refine (bellbuoyref21_Wait.calls b s p n _ _ H4.out).mono ?_); rintro e w5 ⟨rfl, hb⟩; have n0 : Aside0 (Bx b s p n m w w5) := ⟨(by first | exact BX.out.below hb | exact BX.out.drew.below hb)⟩; clear hb; clear BX; have BX := n0; clear n0; clear c0 c1 c2 c3 c4; obtain ⟨c0, c1, c2, c3, c4⟩ := BX.out.cells)
      | (go_at_call 14; (with_reducible refine (rank_Window.calls b s p n m _ _ H5.out).mono ?_); rintro e w5 ⟨rfl, hb⟩; have n0 : Aside0 (Bx b s p n m w w5) := ⟨(by first | exact BX.out.below hb | exact BX.out.drew.below hb)⟩; clear hb; clear BX; have BX := n0; clear n0; clear c0 c1 c2 c3 c4; obtain ⟨c0, c1, c2, c3, c4⟩ := BX.out.cells)
      | (go_at_call 15; (with_reducible refine (bellbuoyref21_Window.calls b s p n m _ _ H6.out).mono ?_); rintro e w5 ⟨rfl, hb⟩; have n0 : Aside0 (Bx b s p n m w w5) := ⟨(by first | exact BX.out.below hb | exact BX.out.drew.below hb)⟩; clear hb; clear BX; have BX := n0; clear n0; clear c0 c1 c2 c3 c4; obtain ⟨c0, c1, c2, c3, c4⟩ := BX.out.cells))
  go_wp2
  go_ret
  exact ⟨rfl, (by first | exact BX.out.B | exact BX.out.drew.B)⟩
theorem RankWaits_walk (b s p n m : Int) (w : World) (w0 : (Lit.int .i64 b).wf = true) (w1 : (Lit.int .i64 s).wf = true) (w2 : (Lit.int .i64 p).wf = true) (w3 : (Lit.int .i64 n).wf = true) (w4 : (Lit.int .i64 m).wf = true) :
    Calls Try.prog 3 #[.agg #[.int .i64 b, .int .i64 s, .int .i64 p], .agg #[.int .i64 n, .int .i64 m]] w fun e w' => e = .returned (.bool true) ∧ Below w.heap.size w w' := by
  simp only [Lit.wf, Bool.and_eq_true, decide_eq_true_eq] at w3
  exact Waits_core b s p n m w w3.1 w3.2
end Go.Proofs.Ytcgkbbfnlbjblaa.P
