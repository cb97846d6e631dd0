/- Whether any timing can be, and what it comes to: the walk. Condition: the numbers are of their kinds. -/
import Derived.Test.YtgekhkigeanajaaTimingLive
namespace Go.Proofs.Ytgekhkigeanajaa.P
open Go.RowKit Go.Proofs.YtgekhkigeanajaaW.PrintWords Go.Proofs.YtgekhkigeanajaaW.PrintLast Go.Proofs.YtgekhkigeanajaaW.PrintMore
set_option linter.unusedVariables false
set_option linter.unusedSimpArgs false
/-- One struct's cells at the call's own memory. -/
structure Tb (t : Tm) (w W : World) : Prop where
  k : W.heap[w.heap.size]? = some t.cs
  B : Below w.heap.size w W
theorem Tb.below {t : Tm} {w W W' : World} (h : Tb t w W) (hb : Below W.heap.size W W') : Tb t w W' := ⟨blk_below h.k hb, below_step h.B hb⟩
theorem Tb.drew {t : Tm} {w W : World} (h : Tb t w W) : Tb t w W.drew := h.below (below_drew1 (Below.refl _ _))
theorem Tb.made (t : Tm) (w : World) : Tb t w (w.alloc t.cs) := ⟨blk_new _ _, below_alloc (Below.refl _ _) _⟩
set_option maxHeartbeats 40000000 in
set_option maxRecDepth 100000 in
theorem TimingIs_core (t : Tm) (l : Int) (w : World) : Calls Try.prog 3 #[t.g, .int .i64 l] w fun e w' => e = .returned (.bool true) ∧ Below w.heap.size w w' := by
  have hu23 := Try.underlying23
  have H8 := Aside0.mk (cRight t)
  have H9 := Aside0.mk (cRRight t)
  have H10 := Aside0.mk (cQuanta t)
  have H11 := Aside0.mk (cRQuanta t)
  have H12 := Aside0.mk (cBit t)
  have H13 := Aside0.mk (cRBit t)
  have H14 := Aside0.mk (cSample t)
  have H15 := Aside0.mk (cRSample t)
  have H16 := Aside0.mk (cDrift t)
  have H17 := Aside0.mk (cRDrift t)
  have H18 := Aside0.mk (cMoved t l)
  have H19 := Aside0.mk (cRMoved t l)
  generalize t.rightB = v1 at H8 H9
  generalize t.quV = v2 at H10 H11
  generalize t.bitV = v3 at H12 H13
  generalize t.samV = v4 at H14 H15
  generalize t.driV = v5 at H16 H17
  generalize t.movV l = v6 at H18 H19
  have q1 : (v1 == v1) = true := by simp
  have q2 : (v2 == v2) = true := by simp
  have q3 : (v3 == v3) = true := by simp
  have q4 : (v4 == v4) = true := by simp
  have q5 : (v5 == v5) = true := by simp
  have q6 : (v6 == v6) = true := by simp
  have Z := Aside0.mk (Tb.made t w)
  obtain ⟨c0, c1, c2, c3, c4⟩ := tm_cells Z.out.k
  go_enter Try.func3, Try.ntmps3
  go_wp2_with fail
  go_region_held3 (fun w' => w'.cell? ⟨w.heap.size, 0, none⟩ = some (.int .i64 t.k) ∧ w'.cell? ⟨w.heap.size, 1, none⟩ = some (.int .i64 t.p) ∧ w'.cell? ⟨w.heap.size, 2, none⟩ = some (.int .i64 t.a) ∧ w'.cell? ⟨w.heap.size, 3, none⟩ = some (.int .i64 t.b) ∧ w'.cell? ⟨w.heap.size, 4, none⟩ = some (.int .i64 t.j)) (go_keep)
    (first
      | (go_at_call 7; (with_reducible refine (live_calls _).mono ?_); rintro e w5 ⟨rfl, hb⟩; have n0 : Aside0 (Tb t w w5) := ⟨(by first | exact Z.out.below hb | exact Z.out.drew.below hb)⟩; clear hb; clear Z; have Z := n0; clear n0; clear c0 c1 c2 c3 c4; obtain ⟨c0, c1, c2, c3, c4⟩ := tm_cells Z.out.k)
      | (go_at_call 8; (with_reducible refine (H8.out _).mono ?_); rintro e w5 ⟨rfl, hb⟩; have n0 : Aside0 (Tb t w w5) := ⟨(by first | exact Z.out.below hb | exact Z.out.drew.below hb)⟩; clear hb; clear Z; have Z := n0; clear n0; clear c0 c1 c2 c3 c4; obtain ⟨c0, c1, c2, c3, c4⟩ := tm_cells Z.out.k)
      | (go_at_call 9; (with_reducible refine (H9.out _).mono ?_); rintro e w5 ⟨rfl, hb⟩; have n0 : Aside0 (Tb t w w5) := ⟨(by first | exact Z.out.below hb | exact Z.out.drew.below hb)⟩; clear hb; clear Z; have Z := n0; clear n0; clear c0 c1 c2 c3 c4; obtain ⟨c0, c1, c2, c3, c4⟩ := tm_cells Z.out.k)
      | (go_at_call 10; (with_reducible refine (H10.out _).mono ?_); rintro e w5 ⟨rfl, hb⟩; have n0 : Aside0 (Tb t w w5) := ⟨(by first | exact Z.out.below hb | exact Z.out.drew.below hb)⟩; clear hb; clear Z; have Z := n0; clear n0; clear c0 c1 c2 c3 c4; obtain ⟨c0, c1, c2, c3, c4⟩ := tm_cells Z.out.k)
      | (go_at_call 11; (with_reducible refine (H11.out _).mono ?_); rintro e w5 ⟨rfl, hb⟩; have n0 : Aside0 (Tb t w w5) := ⟨(by first | exact Z.out.below hb | exact Z.out.drew.below hb)⟩; clear hb; clear Z; have Z := n0; clear n0; clear c0 c1 c2 c3 c4; obtain ⟨c0, c1, c2, c3, c4⟩ := tm_cells Z.out.k)
      | (go_at_call 12; (with_reducible refine (H12.out _).mono ?_); rintro e w5 ⟨rfl, hb⟩; have n0 : Aside0 (Tb t w w5) := ⟨(by first | exact Z.out.below hb | exact Z.out.drew.below hb)⟩; clear hb; clear Z; have Z := n0; clear n0; clear c0 c1 c2 c3 c4; obtain ⟨c0, c1, c2, c3, c4⟩ := tm_cells Z.out.k)
      | (go_at_call 13; (with_reducible refine (H13.out _).mono ?_); rintro e w5 ⟨rfl, hb⟩; have n0 : Aside0 (Tb t w w5) := ⟨(by first | exact Z.out.below hb | exact Z.out.drew.below hb)⟩; clear hb; clear Z; have Z := n0; clear n0; clear c0 c1 c2 c3 c4; obtain ⟨c0, c1, c2, c3, c4⟩ := tm_cells Z.out.k)
      | (go_at_call 14; (with_reducible refine (H14.out _).mono ?_); rintro e w5 ⟨rfl, hb⟩; have n0 : Aside0 (Tb t w w5) := ⟨(by first | exact Z.out.below hb | exact Z.out.drew.below hb)⟩; clear hb; clear Z; have Z := n0; clear n0; clear c0 c1 c2 c3 c4; obtain ⟨c0, c1, c2, c3, c4⟩ := tm_cells Z.out.k)
      | (go_at_call 15; (with_reducible refine (H15.out _).mono ?_); rintro e w5 ⟨rfl, hb⟩; have n0 : Aside0 (Tb t w w5) := ⟨(by first | exact Z.out.below hb | exact Z.out.drew.below hb)⟩; clear hb; clear Z; have Z := n0; clear n0; clear c0 c1 c2 c3 c4; obtain ⟨c0, c1, c2, c3, c4⟩ := tm_cells Z.out.k)
      | (go_at_call 16; (with_reducible refine (H16.out _).mono ?_); rintro e w5 ⟨rfl, hb⟩; have n0 : Aside0 (Tb t w w5) := ⟨(by first | exact Z.out.below hb | exact Z.out.drew.below hb)⟩; clear hb; clear Z; have Z := n0; clear n0; clear c0 c1 c2 c3 c4; obtain ⟨c0, c1, c2, c3, c4⟩ := tm_cells Z.out.k)
      | (go_at_call 17; (with_reducible refine (H17.out _).mono ?_); rintro e w5 ⟨rfl, hb⟩; have n0 : Aside0 (Tb t w w5) := ⟨(by first | exact Z.out.below hb | exact Z.out.drew.below hb)⟩; clear hb; clear Z; have Z := n0; clear n0; clear c0 c1 c2 c3 c4; obtain ⟨c0, c1, c2, c3, c4⟩ := tm_cells Z.out.k)
      | (go_at_call 18; (with_reducible refine (H18.out _).mono ?_); rintro e w5 ⟨rfl, hb⟩; have n0 : Aside0 (Tb t w w5) := ⟨(by first | exact Z.out.below hb | exact Z.out.drew.below hb)⟩; clear hb; clear Z; have Z := n0; clear n0; clear c0 c1 c2 c3 c4; obtain ⟨c0, c1, c2, c3, c4⟩ := tm_cells Z.out.k)
      | (go_at_call 19; (with_reducible refine (H19.out _).mono ?_); rintro e w5 ⟨rfl, hb⟩; have n0 : Aside0 (Tb t w w5) := ⟨(by first | exact Z.out.below hb | exact Z.out.drew.below hb)⟩; clear hb; clear Z; have Z := n0; clear n0; clear c0 c1 c2 c3 c4; obtain ⟨c0, c1, c2, c3, c4⟩ := tm_cells Z.out.k))
  go_wp2
  go_ret
  exact ⟨rfl, (by first | exact Z.out.B | exact Z.out.drew.B)⟩
theorem TimingIs_walk (k p a b j l : Int) (w : World) (w0 : (Lit.int .i64 k).wf = true) (w1 : (Lit.int .i64 p).wf = true) (w2 : (Lit.int .i64 a).wf = true) (w3 : (Lit.int .i64 b).wf = true) (w4 : (Lit.int .i64 j).wf = true) (w5 : (Lit.int .i64 l).wf = true) :
    Calls Try.prog 3 #[.agg #[.int .i64 k, .int .i64 p, .int .i64 a, .int .i64 b, .int .i64 j], .int .i64 l] w fun e w' => e = .returned (.bool true) ∧ Below w.heap.size w w' := TimingIs_core ⟨k, p, a, b, j⟩ l w
end Go.Proofs.Ytgekhkigeanajaa.P
