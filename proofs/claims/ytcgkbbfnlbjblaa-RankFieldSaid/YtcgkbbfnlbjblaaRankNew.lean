/- A node that is switched on, and whether a config can be, by the program and the document. Conditions: the numbers are of their kinds. -/
import Derived.Test.YtcgkbbfnlbjblaaRankField
namespace Go.Proofs.Ytcgkbbfnlbjblaa.P
open Go.RowKit Go.Proofs.YtcgkbbfnlbjblaaW.PrintWords Go.Proofs.YtcgkbbfnlbjblaaW.PrintLast Go.Proofs.YtcgkbbfnlbjblaaW.PrintMore
set_option linter.unusedVariables false
set_option linter.unusedSimpArgs false
def rightB (b s p : Int) : Bool := decide (1 ≤ p ∧ p ≤ 1000 ∧ 1 ≤ s ∧ s ≤ 1000 ∧ p ≤ b ∧ b ≤ 10000)
def rankB (r : Int) : Bool := decide (0 ≤ r ∧ r ≤ 31)
theorem within_eq (n l h : Int) : rank_within.f n l h = some (decide (l ≤ n ∧ n ≤ h)) := by
  unfold rank_within.f
  by_cases h1 : n ≥ l
  · rw [if_pos h1]; congr 1; apply decide_eq_decide.2; omega
  · rw [if_neg h1]; congr 1; symm; apply decide_eq_false; omega
theorem Right_eq (b s p : Int) : rank_Right.f b s p = some (rightB b s p) := by
  unfold rank_Right.f
  rw [within_eq, within_eq, within_eq]
  simp only [Option.bind_some, rightB]
  by_cases h1 : 1 ≤ p ∧ p ≤ 1000 <;> by_cases h2 : 1 ≤ s ∧ s ≤ 1000 <;> by_cases h3 : p ≤ b ∧ b ≤ 10000 <;> simp [h1, h2, h3] <;> omega
theorem ranked_eq (r : Int) : rank_ranked.f r = some (rankB r) := by
  unfold rank_ranked.f rankB
  rw [within_eq]
  rfl
def waitV (b s p r : Int) : Int := if rightB b s p = true ∧ rankB r = true then b + r * s else 0
theorem right_of {b s p : Int} (h : rightB b s p = true) : 1 ≤ p ∧ p ≤ 1000 ∧ 1 ≤ s ∧ s ≤ 1000 ∧ p ≤ b ∧ b ≤ 10000 := of_decide_eq_true h
theorem rank_of {r : Int} (h : rankB r = true) : 0 ≤ r ∧ r ≤ 31 := of_decide_eq_true h
theorem mul_range {r s : Int} (h : 0 ≤ r ∧ r ≤ 31) (hs : 1 ≤ s ∧ s ≤ 1000) : 0 ≤ r * s ∧ r * s ≤ 31000 := by
  constructor
  · exact Int.mul_nonneg h.1 (by omega)
  · have h1 : r * s ≤ 31 * s := Int.mul_le_mul_of_nonneg_right h.2 (by omega)
    omega
theorem Wait_eq (b s p r : Int) : rank_Wait.f b s p r = some (waitV b s p r) := by
  unfold rank_Wait.f waitV
  rw [Right_eq, ranked_eq]
  simp only [Option.bind_some]
  cases h1 : rightB b s p
  · simp
  · cases h2 : rankB r
    · simp
    · have a := right_of h1
      have c := mul_range (rank_of h2) ⟨a.2.2.1, a.2.2.2.1⟩
      simp only [if_true, and_self]
      rw [i64w (r * s) (by omega) (by omega), i64w _ (by omega) (by omega)]
theorem New_no (b s p r : Int) (w : World) (h : (rightB b s p && rankB r) = false) :
    Calls Try.prog 16 #[.agg #[.int .i64 b, .int .i64 s, .int .i64 p], .int .i64 r] w fun e w' => e = .returned (.tuple #[.pointer none, .int .i64 1]) ∧ Below w.heap.size w w' := by
  have hu23 := Try.underlying23
  have H1 := Aside0.mk (Right_eq b s p)
  have H2 := Aside0.mk (ranked_eq r)
  have BK0 : Aside0 ((w.alloc (.cells #[.int .i64 b, .int .i64 s, .int .i64 p] 23)).heap[w.heap.size]? = some (.cells #[.int .i64 b, .int .i64 s, .int .i64 p] 23 (0, 0))) := ⟨blk_new _ _⟩
  have B0 : Aside0 (Below w.heap.size w (w.alloc (.cells #[.int .i64 b, .int .i64 s, .int .i64 p] 23))) := ⟨below_alloc (Below.refl _ _) _⟩
  have c0 := (blk_cell BK0.out 0).trans rfl
  have c1 := (blk_cell BK0.out 1).trans rfl
  have c2 := (blk_cell BK0.out 2).trans rfl
  cases h1 : rightB b s p
  · rw [h1] at H1
    clear h h1
    go_enter Try.func16, Try.ntmps16
    go_wp2_with fail
    (with_reducible refine (rank_Right.calls b s p false _ H1.out).mono ?_); rintro e w1 ⟨rfl, hd⟩
    have B1 : Aside0 (Below w.heap.size w w1) := ⟨below_step B0.out hd⟩
    clear hd
    go_wp2_with fail
    go_ret2
    exact ⟨rfl, B1.out⟩
  · have h2 : rankB r = false := by simpa [h1] using h
    rw [h1] at H1
    rw [h2] at H2
    clear h h1 h2
    go_enter Try.func16, Try.ntmps16
    go_wp2_with fail
    (with_reducible refine (rank_Right.calls b s p true _ H1.out).mono ?_); rintro e w1 ⟨rfl, hd⟩
    have B1 : Aside0 (Below w.heap.size w w1) := ⟨below_step B0.out hd⟩
    clear hd
    go_wp2_with fail
    (with_reducible refine (rank_ranked.calls r false _ H2.out).mono ?_); rintro e w2 ⟨rfl, hd⟩
    have B2 : Aside0 (Below w.heap.size w w2) := ⟨below_step B1.out hd.below⟩
    clear hd
    go_wp2_with fail
    go_ret2
    exact ⟨rfl, B2.out⟩
theorem New_yes (b s p r : Int) (w : World) (h1 : rightB b s p = true) (h2 : rankB r = true) :
    Calls Try.prog 16 #[.agg #[.int .i64 b, .int .i64 s, .int .i64 p], .int .i64 r] w fun e w' => ∃ g, e = .returned (.tuple #[.pointer (some ⟨g, 0, none⟩), .int .i64 0]) ∧ w.heap.size ≤ g ∧ NdAt w' g b s p r ⟨false, 0, 0⟩ ∧ Below w.heap.size w w' := by
  have hu23 := Try.underlying23
  have hu77 := Try.underlying77
  have H1 := Aside0.mk (Right_eq b s p)
  have H2 := Aside0.mk (ranked_eq r)
  rw [h1] at H1
  rw [h2] at H2
  have BK0 : Aside0 ((w.alloc (.cells #[.int .i64 b, .int .i64 s, .int .i64 p] 23)).heap[w.heap.size]? = some (.cells #[.int .i64 b, .int .i64 s, .int .i64 p] 23 (0, 0))) := ⟨blk_new _ _⟩
  have B0 : Aside0 (Below w.heap.size w (w.alloc (.cells #[.int .i64 b, .int .i64 s, .int .i64 p] 23))) := ⟨below_alloc (Below.refl _ _) _⟩
  have c0 := (blk_cell BK0.out 0).trans rfl
  have c1 := (blk_cell BK0.out 1).trans rfl
  have c2 := (blk_cell BK0.out 2).trans rfl
  clear h1 h2
  go_enter Try.func16, Try.ntmps16
  go_wp2_with fail
  (with_reducible refine (rank_Right.calls b s p true _ H1.out).mono ?_); rintro e w1 ⟨rfl, hd⟩
  have BK1 : Aside0 (w1.heap[w.heap.size]? = some (.cells #[.int .i64 b, .int .i64 s, .int .i64 p] 23 (0, 0))) := ⟨blk_below BK0.out hd⟩
  have B1 : Aside0 (Below w.heap.size w w1) := ⟨below_step B0.out hd⟩
  clear hd c0 c1 c2 BK0 B0
  go_wp2_with fail
  (with_reducible refine (rank_ranked.calls r true _ H2.out).mono ?_); rintro e w2 ⟨rfl, hd⟩
  have BK2 : Aside0 (w2.heap[w.heap.size]? = some (.cells #[.int .i64 b, .int .i64 s, .int .i64 p] 23 (0, 0))) := ⟨blk_below BK1.out hd.below⟩
  have B2 : Aside0 (Below w.heap.size w w2) := ⟨below_step B1.out hd.below⟩
  clear hd BK1 B1
  have c0 := (blk_cell BK2.out 0).trans rfl
  have c1 := (blk_cell BK2.out 1).trans rfl
  have c2 := (blk_cell BK2.out 2).trans rfl
  go_wp2_with fail
  go_ret2
  exact ⟨w2.heap.size, rfl, B2.out.size, blk_new _ _, below_alloc B2.out _⟩
end Go.Proofs.Ytcgkbbfnlbjblaa.P
