/- A node by the document and the program, side by side. Conditions: the ranges that each lemma names. -/
import Derived.Test.YtcgkbbfnlbjblaaRankRTick
namespace Go.Proofs.Ytcgkbbfnlbjblaa.P
open Go.RowKit Go.Proofs.YtcgkbbfnlbjblaaW.PrintWords Go.Proofs.YtcgkbbfnlbjblaaW.PrintLast Go.Proofs.YtcgkbbfnlbjblaaW.PrintMore
set_option linter.unusedVariables false
set_option linter.unusedSimpArgs false
theorem tmod_next {q p : Int} (q0 : 0 ≤ q) (q1 : q < p) : Int.tmod (q + 1) p = (if q + 1 = p then 0 else q + 1) ∧ (Int.tmod (q + 1) p == 0) = decide (q + 1 = p) := by
  by_cases h : q + 1 = p
  · rw [if_pos h, h, Int.tmod_self, decide_eq_true rfl]
    exact ⟨rfl, rfl⟩
  · rw [if_neg h, Int.tmod_eq_of_lt (by omega) (by omega), decide_eq_false h]
    exact ⟨rfl, beq_eq_false_iff_ne.mpr (by omega)⟩
theorem RTick_calls (g : Nat) (b s p r : Int) (n : Nd) (A : Option Addr) (c m : Nat) (zs : List Int) (w : World) (h : RAt w g b s p r n) (hm : zs.length = m) (hl : zs.length ≤ c) (hz : Kd.C (Kd.int .i64) w A zs.length zs)
    (ok : NdOk (waitV b s p r) p n) (p1 : p ≤ 1000) :
    Calls Try.prog 19 #[.pointer (some ⟨g, 0, none⟩), .slice A m c] w fun e w' => e = .returned (.bool (tickN (waitV b s p r) p r zs n).1) ∧ RAt w' g b s p r (tickN (waitV b s p r) p r zs n).2 ∧ Ch (fun k => k = g) w w' := by
  subst hm
  obtain ⟨h1, h2, h3, h4⟩ := ok
  have wr := (wait_range b s p r).2
  unfold tickN
  by_cases a : zs.any (betterB r) = true
  · rw [if_pos a]
    exact RTick_hears g b s p r n A c zs w h hl hz a
  · rw [if_neg a]
    have a' : zs.any (betterB r) = false := by simpa using a
    by_cases m : n.m = true
    · rw [if_pos m, (tmod_next h3 h4).2, (tmod_next h3 h4).1]
      exact RTick_leads g b s p r n A c zs w h hl hz a' m h3 h4 p1
    · rw [if_neg m]
      have m' : n.m = false := by simpa using m
      by_cases t : waitV b s p r < n.i + 1
      · rw [if_pos t]
        exact RTick_rises g b s p r _ n A c zs w h hl hz a' m' h1 (by omega) (RefWait_eq b s p r) t
      · rw [if_neg t]
        exact RTick_waits g b s p r _ n A c zs w h hl hz a' m' h1 (by omega) (RefWait_eq b s p r) t
theorem PTick_calls (g : Nat) (b s p r : Int) (n : Nd) (A : Option Addr) (c m : Nat) (zs : List Int) (w : World) (h : NdAt w g b s p r n) (hm : zs.length = m) (hl : zs.length ≤ c) (hz : Kd.C (Kd.int .i64) w A zs.length zs)
    (ok : NdOk (waitV b s p r) p n) (p0 : 1 ≤ p) (p1 : p ≤ 1000) :
    Calls Try.prog 18 #[.pointer (some ⟨g, 0, none⟩), .slice A m c] w fun e w' => e = .returned (.bool (tickN (waitV b s p r) p r zs n).1) ∧ NdAt w' g b s p r (tickN (waitV b s p r) p r zs n).2 ∧ Ch (fun k => k = g) w w' := by
  subst hm
  exact Tick_calls g b s p r _ n A c zs w h hl hz (Wait_eq b s p r) ok (by have := (wait_range b s p r).2; omega) p0 p1
theorem RNew_no (b s p r : Int) (w : World) (h : (rightB b s p && rankB r) = false) :
    Calls Try.prog 17 #[.agg #[.int .i64 b, .int .i64 s, .int .i64 p], .int .i64 r] w fun e w' => e = .returned (.tuple #[.pointer none, .int .i64 1]) ∧ Below w.heap.size w w' := by
  have hu28 := Try.underlying28
  have H1 := Aside0.mk (RefRight_eq b s p)
  have BK0 : Aside0 ((w.alloc (.cells #[.int .i64 b, .int .i64 s, .int .i64 p] 28)).heap[w.heap.size]? = some (.cells #[.int .i64 b, .int .i64 s, .int .i64 p] 28 (0, 0))) := ⟨blk_new _ _⟩
  have B0 : Aside0 (Below w.heap.size w (w.alloc (.cells #[.int .i64 b, .int .i64 s, .int .i64 p] 28))) := ⟨below_alloc (Below.refl _ _) _⟩
  have c0 := (blk_cell BK0.out 0).trans rfl
  have c1 := (blk_cell BK0.out 1).trans rfl
  have c2 := (blk_cell BK0.out 2).trans rfl
  cases h1 : rightB b s p
  · rw [h1] at H1
    clear h h1
    go_enter Try.func17, Try.ntmps17
    go_wp2_with fail
    (with_reducible refine (bellbuoyref21_Right.calls b s p false _ H1.out).mono ?_); rintro e w1 ⟨rfl, hd⟩
    have B1 : Aside0 (Below w.heap.size w w1) := ⟨below_step B0.out hd⟩
    clear hd
    go_wp2_with fail
    go_ret2
    exact ⟨rfl, B1.out⟩
  · have h2 : rankB r = false := by simpa [h1] using h
    have h3 : ¬ (0 ≤ r ∧ r ≤ 31) := of_decide_eq_false h2
    rw [h1] at H1
    clear h h1 h2
    by_cases r0 : r < 0
    · have u1 : decide (r < 0) = true := decide_eq_true r0
      clear h3 r0
      go_enter Try.func17, Try.ntmps17
      go_wp2_with fail
      (with_reducible refine (bellbuoyref21_Right.calls b s p true _ H1.out).mono ?_); rintro e w1 ⟨rfl, hd⟩
      have B1 : Aside0 (Below w.heap.size w w1) := ⟨below_step B0.out hd⟩
      clear hd
      go_wp2_with fail
      go_ret2
      exact ⟨rfl, B1.out⟩
    · have u1 : decide (r < 0) = false := decide_eq_false r0
      have u2 : decide (r ≥ 32) = true := decide_eq_true (by omega)
      have u3 : decide (32 ≤ r) = true := decide_eq_true (by omega)
      clear h3 r0
      go_enter Try.func17, Try.ntmps17
      go_wp2_with fail
      (with_reducible refine (bellbuoyref21_Right.calls b s p true _ H1.out).mono ?_); rintro e w1 ⟨rfl, hd⟩
      have B1 : Aside0 (Below w.heap.size w w1) := ⟨below_step B0.out hd⟩
      clear hd
      go_wp2_with fail
      go_ret2
      exact ⟨rfl, B1.out⟩
theorem RNew_yes (b s p r : Int) (w : World) (h1 : rightB b s p = true) (h2 : rankB r = true) :
    Calls Try.prog 17 #[.agg #[.int .i64 b, .int .i64 s, .int .i64 p], .int .i64 r] w fun e w' => ∃ g, e = .returned (.tuple #[.pointer (some ⟨g, 0, none⟩), .int .i64 0]) ∧ w.heap.size ≤ g ∧ RAt w' g b s p r ⟨false, 0, 0⟩ ∧ Below w.heap.size w w' := by
  have hu28 := Try.underlying28
  have hu47 := Try.underlying47
  have H1 := Aside0.mk (RefRight_eq b s p)
  rw [h1] at H1
  have h3 := rank_of h2
  have u1 : decide (r < 0) = false := decide_eq_false (by omega)
  have u2 : decide (r ≥ 32) = false := decide_eq_false (by omega)
  have u3 : decide (32 ≤ r) = false := decide_eq_false (by omega)
  clear h3
  have BK0 : Aside0 ((w.alloc (.cells #[.int .i64 b, .int .i64 s, .int .i64 p] 28)).heap[w.heap.size]? = some (.cells #[.int .i64 b, .int .i64 s, .int .i64 p] 28 (0, 0))) := ⟨blk_new _ _⟩
  have B0 : Aside0 (Below w.heap.size w (w.alloc (.cells #[.int .i64 b, .int .i64 s, .int .i64 p] 28))) := ⟨below_alloc (Below.refl _ _) _⟩
  have c0 := (blk_cell BK0.out 0).trans rfl
  have c1 := (blk_cell BK0.out 1).trans rfl
  have c2 := (blk_cell BK0.out 2).trans rfl
  clear h1 h2
  go_enter Try.func17, Try.ntmps17
  go_wp2_with fail
  (with_reducible refine (bellbuoyref21_Right.calls b s p true _ H1.out).mono ?_); rintro e w1 ⟨rfl, hd⟩
  have BK1 : Aside0 (w1.heap[w.heap.size]? = some (.cells #[.int .i64 b, .int .i64 s, .int .i64 p] 28 (0, 0))) := ⟨blk_below BK0.out hd⟩
  have B1 : Aside0 (Below w.heap.size w w1) := ⟨below_step B0.out hd⟩
  clear hd c0 c1 c2 BK0 B0
  have c0 := (blk_cell BK1.out 0).trans rfl
  have c1 := (blk_cell BK1.out 1).trans rfl
  have c2 := (blk_cell BK1.out 2).trans rfl
  go_wp2_with fail
  go_ret2
  exact ⟨w1.heap.size, rfl, B1.out.size, blk_new _ _, below_alloc B1.out _⟩
end Go.Proofs.Ytcgkbbfnlbjblaa.P
