/- What a number is worth tells it again: the walk. Condition: the numbers are of their kinds. -/
import Derived.Test.YtepeihlhokpjjaaSigLive
namespace Go.Proofs.Ytepeihlhokpjjaa.P
open Go.RowKit Go.Proofs.YtepeihlhokpjjaaW.PrintWords Go.Proofs.YtepeihlhokpjjaaW.PrintLast Go.Proofs.YtepeihlhokpjjaaW.PrintMore
set_option linter.unusedVariables false
set_option linter.unusedSimpArgs false
/-- What the law's calls answer, as letters: a number's worth and its raw number; another's raw number, its worth, and the range. -/
structure WorthFacts (s : Sg) (raw x y r3 r lo hi y2 : Int) (ok ok3 ok2 ok4 : Bool) : Prop where
  W1 : ∀ w, Calls Try.prog 12 #[s.g, .int .i64 raw] w fun e w' => e = .returned (.tuple #[.int .i64 y, .bool ok]) ∧ Below w.heap.size w w'
  R1 : ∀ w, Calls Try.prog 14 #[s.g, .int .i64 y] w fun e w' => e = .returned (.tuple #[.int .i64 r3, .bool ok3]) ∧ Below w.heap.size w w'
  R2 : ∀ w, Calls Try.prog 14 #[s.g, .int .i64 x] w fun e w' => e = .returned (.tuple #[.int .i64 r, .bool ok2]) ∧ Below w.heap.size w w'
  G : ∀ w, Calls Try.prog 10 #[s.g] w fun e w' => e = .returned (.tuple #[.int .i64 lo, .int .i64 hi]) ∧ Below w.heap.size w w'
  W2 : ∀ w, Calls Try.prog 12 #[s.g, .int .i64 r] w fun e w' => e = .returned (.tuple #[.int .i64 y2, .bool ok4]) ∧ Below w.heap.size w w'
  f1 : ok = true → r3 = raw ∧ ok3 = true
  f2 : ok2 = true → lo ≤ r ∧ r ≤ hi ∧ y2 = x ∧ ok4 = true
  f3 : ok2 = false → r = 0
theorem worth_facts (s : Sg) (raw x : Int) (h1 : In64 raw) (h2 : In64 x) (h3 : In64 s.sc) (h4 : In64 s.off) : ∃ y r3 r lo hi y2 ok ok3 ok2 ok4, WorthFacts s raw x y r3 r lo hi y2 ok ok3 ok2 ok4 := by
  refine ⟨_, _, _, _, _, _, _, _, _, _, ⟨Worth_walk s h1 h3 h4, Raw_walk s (worthV_64 s raw) h3 h4, Raw_walk s h2 h3 h4, Range_walk s, Worth_walk s (rawV_64 s x) h3 h4, ?_, ?_, ?_⟩⟩
  · intro h
    have := worth_raw h1 (show worthV s raw = ((worthV s raw).1, true) from Prod.ext rfl h)
    rw [this]
    exact ⟨rfl, rfl⟩
  · intro h
    have := raw_worth (show rawV s x = ((rawV s x).1, true) from Prod.ext rfl h)
    refine ⟨this.1, this.2.1, ?_, ?_⟩
    · rw [this.2.2]
    · rw [this.2.2]
  · intro h
    exact raw_none (show rawV s x = ((rawV s x).1, false) from Prod.ext rfl h)
set_option maxHeartbeats 40000000 in
set_option maxRecDepth 100000 in
theorem SignalWorth_core (s : Sg) (raw x : Int) (w : World) (h1 : In64 raw) (h2 : In64 x) (h3 : In64 s.sc) (h4 : In64 s.off) :
    Calls Try.prog 7 #[s.g, .int .i64 raw, .int .i64 x] w fun e w' => e = .returned (.bool true) ∧ Below w.heap.size w w' := by
  have hu23 := Try.underlying23
  obtain ⟨y, r3, r, lo, hi, y2, ok, ok3, ok2, ok4, F0⟩ := worth_facts s raw x h1 h2 h3 h4
  have F := Aside0.mk F0
  clear h1 h2 h3 h4 F0
  have Z := Aside0.mk (Sb.made s w)
  obtain ⟨c0, c1, c2, c3, c4, c5⟩ := sg_cells Z.out.k
  go_enter Try.func7, Try.ntmps7
  cases ok
  case' true =>
    obtain ⟨rfl, rfl⟩ := F.out.f1 rfl
    have q0 : (r3 != r3) = false := by simp
  all_goals (
    cases ok2
    case' true =>
      obtain ⟨g1, g2, rfl, rfl⟩ := F.out.f2 rfl
      have q1 : decide (r ≥ lo) = true := decide_eq_true g1
      have q2 : decide (r ≤ hi) = true := decide_eq_true g2
      have q3 : (y2 == y2) = true := by simp
      clear g1 g2
    case' false =>
      obtain rfl := F.out.f3 rfl
    all_goals (
      go_wp2_with
        (first
          | (go_at_call 12; (with_reducible refine (F.out.W1 _).mono ?_); rintro e w5 ⟨rfl, hb⟩; have n0 := Aside0.mk (Z.out.below hb); clear hb Z c0 c1 c2 c3 c4 c5; have Z := n0; clear n0; obtain ⟨c0, c1, c2, c3, c4, c5⟩ := sg_cells Z.out.k)
          | (go_at_call 12; (with_reducible refine (F.out.W2 _).mono ?_); rintro e w5 ⟨rfl, hb⟩; have n0 := Aside0.mk (Z.out.below hb); clear hb Z c0 c1 c2 c3 c4 c5; have Z := n0; clear n0; obtain ⟨c0, c1, c2, c3, c4, c5⟩ := sg_cells Z.out.k)
          | (go_at_call 14; (with_reducible refine (F.out.R1 _).mono ?_); rintro e w5 ⟨rfl, hb⟩; have n0 := Aside0.mk (Z.out.below hb); clear hb Z c0 c1 c2 c3 c4 c5; have Z := n0; clear n0; obtain ⟨c0, c1, c2, c3, c4, c5⟩ := sg_cells Z.out.k)
          | (go_at_call 14; (with_reducible refine (F.out.R2 _).mono ?_); rintro e w5 ⟨rfl, hb⟩; have n0 := Aside0.mk (Z.out.below hb); clear hb Z c0 c1 c2 c3 c4 c5; have Z := n0; clear n0; obtain ⟨c0, c1, c2, c3, c4, c5⟩ := sg_cells Z.out.k)
          | (go_at_call 10; (with_reducible refine (F.out.G _).mono ?_); rintro e w5 ⟨rfl, hb⟩; have n0 := Aside0.mk (Z.out.below hb); clear hb Z c0 c1 c2 c3 c4 c5; have Z := n0; clear n0; obtain ⟨c0, c1, c2, c3, c4, c5⟩ := sg_cells Z.out.k)
          | (go_at_call 16; (with_reducible refine (live_calls _).mono ?_); rintro e w5 ⟨rfl, hb⟩; have n0 := Aside0.mk (Z.out.below hb); clear hb Z c0 c1 c2 c3 c4 c5; have Z := n0; clear n0; obtain ⟨c0, c1, c2, c3, c4, c5⟩ := sg_cells Z.out.k))
      go_ret
      exact ⟨rfl, Z.out.B⟩))
theorem SignalWorth_walk (a0_0 a0_1 : Int) (a0_2 a0_3 : Bool) (a0_4 a0_5 a1 a2 : Int) (w : World) (w0_0 : (Lit.int .i64 a0_0).wf = true) (w0_1 : (Lit.int .i64 a0_1).wf = true) (w0_4 : (Lit.int .i64 a0_4).wf = true) (w0_5 : (Lit.int .i64 a0_5).wf = true) (w1 : (Lit.int .i64 a1).wf = true) (w2 : (Lit.int .i64 a2).wf = true) :
    Calls Try.prog 7 #[.agg #[.int .i64 a0_0, .int .i64 a0_1, .bool a0_2, .bool a0_3, .int .i64 a0_4, .int .i64 a0_5], .int .i64 a1, .int .i64 a2] w fun e w' => e = .returned (.bool true) ∧ Below w.heap.size w w' := by
  simp only [Lit.wf, Bool.and_eq_true, decide_eq_true_eq] at w0_4 w0_5 w1 w2
  exact SignalWorth_core ⟨a0_0, a0_1, a0_2, a0_3, a0_4, a0_5⟩ a1 a2 w w1 w2 w0_4 w0_5
end Go.Proofs.Ytepeihlhokpjjaa.P
