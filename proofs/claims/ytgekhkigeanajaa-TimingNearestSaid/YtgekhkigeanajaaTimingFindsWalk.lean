/- Which timing is found, and how many there are: the walk. Condition: the numbers are of their kinds. -/
import Derived.Test.YtgekhkigeanajaaTimingLive
namespace Go.Proofs.Ytgekhkigeanajaa.P
open Go.RowKit Go.Proofs.YtgekhkigeanajaaW.PrintWords Go.Proofs.YtgekhkigeanajaaW.PrintLast Go.Proofs.YtgekhkigeanajaaW.PrintMore
set_option linter.unusedVariables false
set_option linter.unusedSimpArgs false
theorem RFind_calls (bit s : Int) (w : World) (b64 : -9223372036854775808 ≤ bit ∧ bit ≤ 9223372036854775807) :
    Calls Try.prog 21 #[.int .i64 bit, .int .i64 s] w fun e w' => e = .returned (.tuple #[(findV bit s).1.g, .bool (findV bit s).2]) ∧ Below w.heap.size w w' := by
  obtain ⟨K, hK⟩ := find_same (s := s) b64
  exact bellbuoyref36_Find.calls K bit s _ _ _ _ _ _ w hK
theorem RAll_calls (bit : Int) (w : World) (b64 : -9223372036854775808 ≤ bit ∧ bit ≤ 9223372036854775807) :
    Calls Try.prog 23 #[.int .i64 bit] w fun e w' => e = .returned (.int .i64 ((allL bit).length : Int)) ∧ Below w.heap.size w w' := by
  obtain ⟨K, hK⟩ := all_same b64
  exact bellbuoyref36_All.calls K bit _ w hK
set_option maxHeartbeats 40000000 in
set_option maxRecDepth 100000 in
theorem TimingFinds_core (bit s : Int) (w : World) (b64 : -9223372036854775808 ≤ bit ∧ bit ≤ 9223372036854775807) :
    Calls Try.prog 4 #[.int .i64 bit, .int .i64 s] w fun e w' => e = .returned (.bool true) ∧ Below w.heap.size w w' := by
  have hu23 := Try.underlying23
  have H1 : Aside0 (∀ w, Calls Try.prog 20 #[.int .i64 bit, .int .i64 s] w fun e w' => e = .returned (.tuple #[(findV bit s).1.g, .bool (findV bit s).2]) ∧ Below w.heap.size w w') := ⟨fun w => Find_calls bit s w b64⟩
  have H2 : Aside0 (∀ w, Calls Try.prog 21 #[.int .i64 bit, .int .i64 s] w fun e w' => e = .returned (.tuple #[(findV bit s).1.g, .bool (findV bit s).2]) ∧ Below w.heap.size w w') := ⟨fun w => RFind_calls bit s w b64⟩
  have H3 : Aside0 (∀ w, Calls Try.prog 22 #[.int .i64 bit] w fun e w' => e = .returned (.int .i64 ((allL bit).length : Int)) ∧ Below w.heap.size w w') := ⟨fun w => All_calls bit w b64⟩
  have H4 : Aside0 (∀ w, Calls Try.prog 23 #[.int .i64 bit] w fun e w' => e = .returned (.int .i64 ((allL bit).length : Int)) ∧ Below w.heap.size w w') := ⟨fun w => RAll_calls bit w b64⟩
  generalize (findV bit s).1 = f at H1 H2
  generalize (findV bit s).2 = v1 at H1 H2
  generalize ((allL bit).length : Int) = v2 at H3 H4
  have q1 : (v1 == v1) = true := by simp
  have q2 : (v2 == v2) = true := by simp
  have q3 : (f.k == f.k) = true := by simp
  have q4 : (f.p == f.p) = true := by simp
  have q5 : (f.a == f.a) = true := by simp
  have q6 : (f.b == f.b) = true := by simp
  have q7 : (f.j == f.j) = true := by simp
  go_enter Try.func4, Try.ntmps4
  go_wp2_with fail
  (with_reducible refine (H1.out _).mono ?_)
  rintro e w1 ⟨rfl, hb⟩
  have B1 := Aside0.mk hb
  clear hb
  go_wp2_with fail
  (with_reducible refine (H2.out _).mono ?_)
  rintro e w2 ⟨rfl, hb⟩
  have Z : Aside0 (Lw w1.heap.size w2.heap.size f f w (w2.alloc f.cs)) := ⟨⟨blk_below (blk_below (blk_new w1 f.cs) hb) (below_alloc (Below.refl _ _) f.cs), blk_new _ _, below_alloc (below_step (below_alloc B1.out f.cs) hb) f.cs⟩⟩
  obtain ⟨c0, c1, c2, c3, c4⟩ := tm_cells Z.out.k1
  obtain ⟨d0, d1, d2, d3, d4⟩ := tm_cells Z.out.k2
  clear hb B1
  go_wp2_with
    (first
      | (go_at_call 7; (with_reducible refine (live_calls _).mono ?_); rintro e w5 ⟨rfl, hb⟩; have n0 : Aside0 (Lw w1.heap.size w2.heap.size f f w w5) := ⟨Z.out.below hb⟩; clear hb; clear Z; have Z := n0; clear n0; clear c0 c1 c2 c3 c4 d0 d1 d2 d3 d4; obtain ⟨c0, c1, c2, c3, c4⟩ := tm_cells Z.out.k1; obtain ⟨d0, d1, d2, d3, d4⟩ := tm_cells Z.out.k2)
      | (go_at_call 22; (with_reducible refine (H3.out _).mono ?_); rintro e w5 ⟨rfl, hb⟩; have n0 : Aside0 (Lw w1.heap.size w2.heap.size f f w w5) := ⟨Z.out.below hb⟩; clear hb; clear Z; have Z := n0; clear n0; clear c0 c1 c2 c3 c4 d0 d1 d2 d3 d4; obtain ⟨c0, c1, c2, c3, c4⟩ := tm_cells Z.out.k1; obtain ⟨d0, d1, d2, d3, d4⟩ := tm_cells Z.out.k2)
      | (go_at_call 23; (with_reducible refine (H4.out _).mono ?_); rintro e w5 ⟨rfl, hb⟩; have n0 : Aside0 (Lw w1.heap.size w2.heap.size f f w w5) := ⟨Z.out.below hb⟩; clear hb; clear Z; have Z := n0; clear n0; clear c0 c1 c2 c3 c4 d0 d1 d2 d3 d4; obtain ⟨c0, c1, c2, c3, c4⟩ := tm_cells Z.out.k1; obtain ⟨d0, d1, d2, d3, d4⟩ := tm_cells Z.out.k2))
  go_ret
  exact ⟨rfl, Z.out.B⟩
theorem TimingFinds_walk (bit s : Int) (w : World) (w0 : (Lit.int .i64 bit).wf = true) (w1 : (Lit.int .i64 s).wf = true) :
    Calls Try.prog 4 #[.int .i64 bit, .int .i64 s] w fun e w' => e = .returned (.bool true) ∧ Below w.heap.size w w' := by
  simp only [Lit.wf, Bool.and_eq_true, decide_eq_true_eq] at w0
  exact TimingFinds_core bit s w w0
end Go.Proofs.Ytgekhkigeanajaa.P
