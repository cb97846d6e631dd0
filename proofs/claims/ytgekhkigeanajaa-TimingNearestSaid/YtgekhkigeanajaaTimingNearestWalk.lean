/- What is found is nearest: the walk. Condition: the numbers are of their kinds. -/
import Derived.Test.YtgekhkigeanajaaTimingNearestPlain
import Derived.Test.YtgekhkigeanajaaTimingIsWalk
namespace Go.Proofs.Ytgekhkigeanajaa.P
open Go.RowKit Go.Proofs.YtgekhkigeanajaaW.PrintWords Go.Proofs.YtgekhkigeanajaaW.PrintLast Go.Proofs.YtgekhkigeanajaaW.PrintMore
set_option linter.unusedVariables false
set_option linter.unusedSimpArgs false
theorem tmod_1001 {x : Int} (h0 : 0 ≤ x) : 0 ≤ Int.tmod x 1001 ∧ Int.tmod x 1001 ≤ 1000 := by
  rw [Int.tmod_eq_emod_of_nonneg h0]
  omega
/-- Without a timing of so many ticks. r, b: what is right of the other one, and its ticks. -/
theorem none_case {n : Int} (o : Tm) (h : allL n = []) : o.rightB = false ∨ o.rightB = true ∧ (o.bitV == n) = false := by
  by_cases hr : o.rightB = true
  · refine .inr ⟨hr, ?_⟩
    have := (find_none 0 h o).2
    simpa [hr] using this
  · exact .inl (by simpa using hr)
set_option maxHeartbeats 40000000 in
set_option maxRecDepth 100000 in
theorem Near_none (n x : Int) (o : Tm) (w : World) (n0 : 0 ≤ n) (n1 : n ≤ 65535) (x0 : 0 ≤ x) (x1 : x ≤ 65535) (h : allL n = []) :
    Calls Try.prog 5 #[.int .u16 n, .int .u16 x, o.g] w fun e w' => e = .returned (.bool true) ∧ Below w.heap.size w w' := by
  have hu23 := Try.underlying23
  have R9 := Aside0.mk (cRRight o)
  have R13 := Aside0.mk (cRBit o)
  have hno := none_case o h
  generalize o.rightB = r at R9 hno
  generalize o.bitV = b at R13 hno
  obtain ⟨z, hz⟩ : ∃ z : Tm, Aside0 (z = z5) := ⟨z5, ⟨rfl⟩⟩
  have F : Aside0 (∀ s w, Calls Try.prog 20 #[.int .i64 n, .int .i64 s] w fun e w' => e = .returned (.tuple #[z.g, .bool false]) ∧ Below w.heap.size w w') := ⟨fun s w => by
    have := Find_calls n s w (by omega)
    rw [(find_none s h o).1] at this
    rw [hz.out]
    exact this⟩
  have L : Aside0 (∀ w, Calls Try.prog 22 #[.int .i64 n] w fun e w' => e = .returned (.int .i64 0) ∧ Below w.heap.size w w') := ⟨fun w => by
    have := All_calls n w (by omega)
    rw [h] at this
    exact this⟩
  have e1 : wrap64 n = n := wr_small _ (by omega) (by omega)
  have e2 : wrap64 x = x := wr_small _ (by omega) (by omega)
  clear h hz n0 n1 x0 x1
  have Z := Aside0.mk (Tb.made o w)
  obtain ⟨c0, c1, c2, c3, c4⟩ := tm_cells Z.out.k
  have hcase : Aside0 (r = false ∨ r = true ∧ (b == n) = false) := ⟨hno⟩
  clear hno
  go_enter Try.func5, Try.ntmps5
  go_wp2_with fail
  (with_reducible refine (F.out _ _).mono ?_)
  rintro e w1 ⟨rfl, hb⟩
  have Z2 : Aside0 (Lw w.heap.size w1.heap.size o z w (w1.alloc z.cs)) := ⟨⟨blk_below (blk_below Z.out.k hb) (below_alloc (Below.refl _ _) z.cs), blk_new _ _, below_alloc (below_step Z.out.B hb) z.cs⟩⟩
  clear Z hb c0 c1 c2 c3 c4
  have Z := Z2
  clear Z2
  obtain ⟨c0, c1, c2, c3, c4⟩ := tm_cells Z.out.k1
  obtain ⟨d0, d1, d2, d3, d4⟩ := tm_cells Z.out.k2
  rcases hcase.out with rfl | ⟨rfl, hne⟩
  all_goals (
    clear hcase
    go_wp2_with
    (first
      | (go_at_call 22; (with_reducible refine (L.out _).mono ?_); rintro e w5 ⟨rfl, hb⟩; have n0 : Aside0 (Lw w.heap.size w1.heap.size o z w w5) := ⟨Z.out.below hb⟩; clear hb; clear Z; have Z := n0; clear n0; clear c0 c1 c2 c3 c4 d0 d1 d2 d3 d4; obtain ⟨c0, c1, c2, c3, c4⟩ := tm_cells Z.out.k1; obtain ⟨d0, d1, d2, d3, d4⟩ := tm_cells Z.out.k2)
      | (go_at_call 7; (with_reducible refine (live_calls _).mono ?_); rintro e w5 ⟨rfl, hb⟩; have n0 : Aside0 (Lw w.heap.size w1.heap.size o z w w5) := ⟨Z.out.below hb⟩; clear hb; clear Z; have Z := n0; clear n0; clear c0 c1 c2 c3 c4 d0 d1 d2 d3 d4; obtain ⟨c0, c1, c2, c3, c4⟩ := tm_cells Z.out.k1; obtain ⟨d0, d1, d2, d3, d4⟩ := tm_cells Z.out.k2)
      | (go_at_call 9; (with_reducible refine (R9.out _).mono ?_); rintro e w5 ⟨rfl, hb⟩; have n0 : Aside0 (Lw w.heap.size w1.heap.size o z w w5) := ⟨Z.out.below hb⟩; clear hb; clear Z; have Z := n0; clear n0; clear c0 c1 c2 c3 c4 d0 d1 d2 d3 d4; obtain ⟨c0, c1, c2, c3, c4⟩ := tm_cells Z.out.k1; obtain ⟨d0, d1, d2, d3, d4⟩ := tm_cells Z.out.k2)
      | (go_at_call 13; (with_reducible refine (R13.out _).mono ?_); rintro e w5 ⟨rfl, hb⟩; have n0 : Aside0 (Lw w.heap.size w1.heap.size o z w w5) := ⟨Z.out.below hb⟩; clear hb; clear Z; have Z := n0; clear n0; clear c0 c1 c2 c3 c4 d0 d1 d2 d3 d4; obtain ⟨c0, c1, c2, c3, c4⟩ := tm_cells Z.out.k1; obtain ⟨d0, d1, d2, d3, d4⟩ := tm_cells Z.out.k2))
    go_ret
    exact ⟨rfl, Z.out.B⟩)
theorem cDist {a b : Int} (a0 : 0 ≤ a) (a1 : a ≤ 1000) (b0 : 0 ≤ b) (b1 : b ≤ 1000) (w : World) :
    Calls Try.prog 24 #[.int .i64 a, .int .i64 b] w fun e w' => e = .returned (.tuple #[.int .i64 (mx (a - b) (b - a)), .bool true]) ∧ Below w.heap.size w w' :=
  (bellbuoyref01_Dist.calls a b _ _ w (dist_small a0 a1 b0 b1)).mono (fun e w' h => ⟨h.1, h.2.below⟩)
/-- With such a timing. -/
theorem some_case {n s : Int} {o t : Tm} (hr : t.rightB = true) (h : ∀ o : Tm, o.rightB = true → o.bitV = n → offV s t ≤ offV s o) :
    o.rightB = false ∨ o.rightB = true ∧ (o.bitV != n) = true ∨ o.rightB = true ∧ (o.bitV != n) = false ∧ decide (mx (t.samV - s) (s - t.samV) ≤ mx (o.samV - s) (s - o.samV)) = true := by
  by_cases ho : o.rightB = true
  · by_cases hb : o.bitV = n
    · refine .inr (.inr ⟨ho, by simpa using hb, decide_eq_true ?_⟩)
      have := h o ho hb
      unfold offV at this
      rw [show t.samV = t.sample from if_pos hr, show o.samV = o.sample from if_pos ho]
      exact this
    · exact .inr (.inl ⟨ho, by simpa using hb⟩)
  · exact .inl (by simpa using ho)
set_option maxHeartbeats 40000000 in
set_option maxRecDepth 100000 in
theorem Near_some (n x : Int) (o : Tm) (w : World) (n0 : 0 ≤ n) (n1 : n ≤ 65535) (x0 : 0 ≤ x) (x1 : x ≤ 65535) (h : allL n ≠ []) :
    Calls Try.prog 5 #[.int .u16 n, .int .u16 x, o.g] w fun e w' => e = .returned (.bool true) ∧ Below w.heap.size w w' := by
  have hu23 := Try.underlying23
  have hs := tmod_1001 x0
  obtain ⟨s, e3⟩ : ∃ s, Int.tmod x 1001 = s := ⟨_, rfl⟩
  rw [e3] at hs
  obtain ⟨t, hF, hr, hb, hbest⟩ := find_some hs.1 hs.2 h
  have hcase := Aside0.mk (some_case (o := o) hr hbest)
  have F : Aside0 (∀ w, Calls Try.prog 20 #[.int .i64 n, .int .i64 s] w fun e w' => e = .returned (.tuple #[t.g, .bool true]) ∧ Below w.heap.size w w') := ⟨fun w => by
    have := Find_calls n s w (by omega)
    rw [hF] at this
    exact this⟩
  have L := Aside0.mk (fun w => All_calls n w (by omega))
  have q0 : decide (((allL n).length : Int) > 0) = true := decide_eq_true (by
    have := List.length_pos_iff.2 h
    omega)
  generalize ((allL n).length : Int) = ll at L q0
  have R9 := Aside0.mk (cRRight o)
  have R13 := Aside0.mk (cRBit o)
  have R15 := Aside0.mk (cRSample o)
  have T9 := Aside0.mk (cRRight t)
  have T13 := Aside0.mk (cRBit t)
  have T15 := Aside0.mk (cRSample t)
  have D1 := Aside0.mk (fun w => cDist (sam_range t).1 (sam_range t).2 hs.1 hs.2 w)
  have D2 := Aside0.mk (fun w => cDist (sam_range o).1 (sam_range o).2 hs.1 hs.2 w)
  rw [hr] at T9
  rw [hb] at T13
  generalize o.rightB = r at R9 hcase
  generalize o.bitV = b at R13 hcase
  generalize mx (t.samV - s) (s - t.samV) = dt at D1 hcase
  generalize mx (o.samV - s) (s - o.samV) = do' at D2 hcase
  generalize t.samV = st at T15 D1
  generalize o.samV = so at R15 D2
  have e1 : wrap64 n = n := wr_small _ (by omega) (by omega)
  have e2 : wrap64 x = x := wr_small _ (by omega) (by omega)
  have q1 : (n != n) = false := by simp
  clear h n0 n1 x0 x1 hs hF hr hb hbest
  have Z := Aside0.mk (Tb.made o w)
  obtain ⟨c0, c1, c2, c3, c4⟩ := tm_cells Z.out.k
  go_enter Try.func5, Try.ntmps5
  go_wp2_with fail
  (with_reducible refine (F.out _).mono ?_)
  rintro e w1 ⟨rfl, hb⟩
  have Z2 : Aside0 (Lw w.heap.size w1.heap.size o t w (w1.alloc t.cs)) := ⟨⟨blk_below (blk_below Z.out.k hb) (below_alloc (Below.refl _ _) t.cs), blk_new _ _, below_alloc (below_step Z.out.B hb) t.cs⟩⟩
  clear Z hb c0 c1 c2 c3 c4
  have Z := Z2
  clear Z2
  obtain ⟨c0, c1, c2, c3, c4⟩ := tm_cells Z.out.k1
  obtain ⟨d0, d1, d2, d3, d4⟩ := tm_cells Z.out.k2
  rcases hcase.out with rfl | ⟨rfl, hne⟩ | ⟨rfl, hne, hle⟩
  all_goals (
    clear hcase
    go_wp2_with
    (first
      | (go_at_call 22; (with_reducible refine (L.out _).mono ?_); rintro e w5 ⟨rfl, hb⟩; have n0 : Aside0 (Lw w.heap.size w1.heap.size o t w w5) := ⟨Z.out.below hb⟩; clear hb; clear Z; have Z := n0; clear n0; clear c0 c1 c2 c3 c4 d0 d1 d2 d3 d4; obtain ⟨c0, c1, c2, c3, c4⟩ := tm_cells Z.out.k1; obtain ⟨d0, d1, d2, d3, d4⟩ := tm_cells Z.out.k2)
      | (go_at_call 7; (with_reducible refine (live_calls _).mono ?_); rintro e w5 ⟨rfl, hb⟩; have n0 : Aside0 (Lw w.heap.size w1.heap.size o t w w5) := ⟨Z.out.below hb⟩; clear hb; clear Z; have Z := n0; clear n0; clear c0 c1 c2 c3 c4 d0 d1 d2 d3 d4; obtain ⟨c0, c1, c2, c3, c4⟩ := tm_cells Z.out.k1; obtain ⟨d0, d1, d2, d3, d4⟩ := tm_cells Z.out.k2)
      | (go_at_call 9; (with_reducible refine (T9.out _).mono ?_); rintro e w5 ⟨rfl, hb⟩; have n0 : Aside0 (Lw w.heap.size w1.heap.size o t w w5) := ⟨Z.out.below hb⟩; clear hb; clear Z; have Z := n0; clear n0; clear c0 c1 c2 c3 c4 d0 d1 d2 d3 d4; obtain ⟨c0, c1, c2, c3, c4⟩ := tm_cells Z.out.k1; obtain ⟨d0, d1, d2, d3, d4⟩ := tm_cells Z.out.k2)
      | (go_at_call 9; (with_reducible refine (R9.out _).mono ?_); rintro e w5 ⟨rfl, hb⟩; have n0 : Aside0 (Lw w.heap.size w1.heap.size o t w w5) := ⟨Z.out.below hb⟩; clear hb; clear Z; have Z := n0; clear n0; clear c0 c1 c2 c3 c4 d0 d1 d2 d3 d4; obtain ⟨c0, c1, c2, c3, c4⟩ := tm_cells Z.out.k1; obtain ⟨d0, d1, d2, d3, d4⟩ := tm_cells Z.out.k2)
      | (go_at_call 13; (with_reducible refine (T13.out _).mono ?_); rintro e w5 ⟨rfl, hb⟩; have n0 : Aside0 (Lw w.heap.size w1.heap.size o t w w5) := ⟨Z.out.below hb⟩; clear hb; clear Z; have Z := n0; clear n0; clear c0 c1 c2 c3 c4 d0 d1 d2 d3 d4; obtain ⟨c0, c1, c2, c3, c4⟩ := tm_cells Z.out.k1; obtain ⟨d0, d1, d2, d3, d4⟩ := tm_cells Z.out.k2)
      | (go_at_call 13; (with_reducible refine (R13.out _).mono ?_); rintro e w5 ⟨rfl, hb⟩; have n0 : Aside0 (Lw w.heap.size w1.heap.size o t w w5) := ⟨Z.out.below hb⟩; clear hb; clear Z; have Z := n0; clear n0; clear c0 c1 c2 c3 c4 d0 d1 d2 d3 d4; obtain ⟨c0, c1, c2, c3, c4⟩ := tm_cells Z.out.k1; obtain ⟨d0, d1, d2, d3, d4⟩ := tm_cells Z.out.k2)
      | (go_at_call 15; (with_reducible refine (T15.out _).mono ?_); rintro e w5 ⟨rfl, hb⟩; have n0 : Aside0 (Lw w.heap.size w1.heap.size o t w w5) := ⟨Z.out.below hb⟩; clear hb; clear Z; have Z := n0; clear n0; clear c0 c1 c2 c3 c4 d0 d1 d2 d3 d4; obtain ⟨c0, c1, c2, c3, c4⟩ := tm_cells Z.out.k1; obtain ⟨d0, d1, d2, d3, d4⟩ := tm_cells Z.out.k2)
      | (go_at_call 15; (with_reducible refine (R15.out _).mono ?_); rintro e w5 ⟨rfl, hb⟩; have n0 : Aside0 (Lw w.heap.size w1.heap.size o t w w5) := ⟨Z.out.below hb⟩; clear hb; clear Z; have Z := n0; clear n0; clear c0 c1 c2 c3 c4 d0 d1 d2 d3 d4; obtain ⟨c0, c1, c2, c3, c4⟩ := tm_cells Z.out.k1; obtain ⟨d0, d1, d2, d3, d4⟩ := tm_cells Z.out.k2)
      | (go_at_call 24; (with_reducible refine (D1.out _).mono ?_); rintro e w5 ⟨rfl, hb⟩; have n0 : Aside0 (Lw w.heap.size w1.heap.size o t w w5) := ⟨Z.out.below hb⟩; clear hb; clear Z; have Z := n0; clear n0; clear c0 c1 c2 c3 c4 d0 d1 d2 d3 d4; obtain ⟨c0, c1, c2, c3, c4⟩ := tm_cells Z.out.k1; obtain ⟨d0, d1, d2, d3, d4⟩ := tm_cells Z.out.k2)
      | (go_at_call 24; (with_reducible refine (D2.out _).mono ?_); rintro e w5 ⟨rfl, hb⟩; have n0 : Aside0 (Lw w.heap.size w1.heap.size o t w w5) := ⟨Z.out.below hb⟩; clear hb; clear Z; have Z := n0; clear n0; clear c0 c1 c2 c3 c4 d0 d1 d2 d3 d4; obtain ⟨c0, c1, c2, c3, c4⟩ := tm_cells Z.out.k1; obtain ⟨d0, d1, d2, d3, d4⟩ := tm_cells Z.out.k2))
    go_ret
    exact ⟨rfl, Z.out.B⟩)
theorem TimingNearest_walk (n x k p a b j : Int) (w : World) (w0 : (Lit.int .u16 n).wf = true) (w1 : (Lit.int .u16 x).wf = true) (w2 : (Lit.int .i64 k).wf = true) (w3 : (Lit.int .i64 p).wf = true) (w4 : (Lit.int .i64 a).wf = true) (w5 : (Lit.int .i64 b).wf = true) (w6 : (Lit.int .i64 j).wf = true) :
    Calls Try.prog 5 #[.int .u16 n, .int .u16 x, .agg #[.int .i64 k, .int .i64 p, .int .i64 a, .int .i64 b, .int .i64 j]] w fun e w' => e = .returned (.bool true) ∧ Below w.heap.size w w' := by
  simp only [Lit.wf, Bool.and_eq_true, decide_eq_true_eq] at w0 w1
  by_cases h : allL n = []
  · exact Near_none n x ⟨k, p, a, b, j⟩ w w0.1 w0.2 w1.1 w1.2 h
  · exact Near_some n x ⟨k, p, a, b, j⟩ w w0.1 w0.2 w1.1 w1.2 h
end Go.Proofs.Ytgekhkigeanajaa.P
