/- What must be whatever is asked, of timings. No condition. -/
import Derived.Test.YtgekhkigeanajaaTimingPure
namespace Go.Proofs.Ytgekhkigeanajaa.P
open Go.RowKit Go.Proofs.YtgekhkigeanajaaW.PrintWords Go.Proofs.YtgekhkigeanajaaW.PrintLast Go.Proofs.YtgekhkigeanajaaW.PrintMore
set_option linter.unusedVariables false
set_option linter.unusedSimpArgs false
abbrev Tm.g (t : Tm) : Value := .agg #[.int .i64 t.k, .int .i64 t.p, .int .i64 t.a, .int .i64 t.b, .int .i64 t.j]
abbrev Tm.cs (t : Tm) : Obj := .cells #[.int .i64 t.k, .int .i64 t.p, .int .i64 t.a, .int .i64 t.b, .int .i64 t.j] 23
theorem cRight (t : Tm) (w : World) : Calls Try.prog 8 #[t.g] w fun e w' => e = .returned (.bool t.rightB) ∧ Below w.heap.size w w' := timing_Right.calls _ _ _ _ _ _ w (Right_eq t)
theorem cRRight (t : Tm) (w : World) : Calls Try.prog 9 #[t.g] w fun e w' => e = .returned (.bool t.rightB) ∧ Below w.heap.size w w' := bellbuoyref36_Right.calls _ _ _ _ _ _ w (RRight_eq t)
theorem cQuanta (t : Tm) (w : World) : Calls Try.prog 10 #[t.g] w fun e w' => e = .returned (.int .i64 t.quV) ∧ Below w.heap.size w w' := timing_Quanta.calls _ _ _ _ _ _ w (Quanta_eq t)
theorem cRQuanta (t : Tm) (w : World) : Calls Try.prog 11 #[t.g] w fun e w' => e = .returned (.int .i64 t.quV) ∧ Below w.heap.size w w' := bellbuoyref36_Quanta.calls _ _ _ _ _ _ w (RQuanta_eq t)
theorem cBit (t : Tm) (w : World) : Calls Try.prog 12 #[t.g] w fun e w' => e = .returned (.int .i64 t.bitV) ∧ Below w.heap.size w w' := timing_Bit.calls _ _ _ _ _ _ w (Bit_eq t)
theorem cRBit (t : Tm) (w : World) : Calls Try.prog 13 #[t.g] w fun e w' => e = .returned (.int .i64 t.bitV) ∧ Below w.heap.size w w' := bellbuoyref36_Bit.calls _ _ _ _ _ _ w (RBit_eq t)
theorem cSample (t : Tm) (w : World) : Calls Try.prog 14 #[t.g] w fun e w' => e = .returned (.int .i64 t.samV) ∧ Below w.heap.size w w' := timing_Sample.calls _ _ _ _ _ _ w (Sample_eq t)
theorem cRSample (t : Tm) (w : World) : Calls Try.prog 15 #[t.g] w fun e w' => e = .returned (.int .i64 t.samV) ∧ Below w.heap.size w w' := bellbuoyref36_Sample.calls _ _ _ _ _ _ w (RSample_eq t)
theorem cDrift (t : Tm) (w : World) : Calls Try.prog 16 #[t.g] w fun e w' => e = .returned (.int .i64 t.driV) ∧ Below w.heap.size w w' := timing_Drift.calls _ _ _ _ _ _ w (Drift_eq t)
theorem cRDrift (t : Tm) (w : World) : Calls Try.prog 17 #[t.g] w fun e w' => e = .returned (.int .i64 t.driV) ∧ Below w.heap.size w w' := bellbuoyref36_Drift.calls _ _ _ _ _ _ w (RDrift_eq t)
theorem cMoved (t : Tm) (l : Int) (w : World) : Calls Try.prog 18 #[t.g, .int .i64 l] w fun e w' => e = .returned (.int .i64 (t.movV l)) ∧ Below w.heap.size w w' := timing_Moved.calls _ _ _ _ _ _ _ w (Moved_eq t l)
theorem cRMoved (t : Tm) (l : Int) (w : World) : Calls Try.prog 19 #[t.g, .int .i64 l] w fun e w' => e = .returned (.int .i64 (t.movV l)) ∧ Below w.heap.size w w' := bellbuoyref36_Moved.calls _ _ _ _ _ _ _ w (RMoved_eq t l)
def t0 : Tm := ⟨1, 1, 8, 6, 4⟩
def f0 : Tm := (findV 16 625).1
theorem lv1 : t0.rightB = true ∧ z5.rightB = false ∧ t0.quV = 16 ∧ t0.bitV = 16 ∧ t0.samV = 625 ∧ t0.driV = 12500 ∧ t0.movV 9 = 4 ∧ t0.movV (-9) = -4 := by decide +kernel
theorem lv2 : (findV 16 625).2 = true := by decide +kernel
theorem lv3 : f0.samV = 625 := by decide +kernel
theorem lv4 : (findV 0 625).2 = false := by decide +kernel
theorem lv5 : decide (((allL 16).length : Int) > 0) = true := by decide +kernel
theorem lv6 : ((allL 7).length : Int) = 0 := by decide +kernel
theorem eZ : z5.rightB = false := lv1.2.1
/-- Two structs' cells: the first at the call's own memory, the second at g. -/
structure Lw (b g : Nat) (t f : Tm) (w W : World) : Prop where
  k1 : W.heap[b]? = some t.cs
  k2 : W.heap[g]? = some f.cs
  B : Below w.heap.size w W
theorem Lw.below {b g : Nat} {t f : Tm} {w W W' : World} (h : Lw b g t f w W) (hb : Below W.heap.size W W') : Lw b g t f w W' := ⟨blk_below h.k1 hb, blk_below h.k2 hb, below_step h.B hb⟩
theorem Lw.drew {b g : Nat} {t f : Tm} {w W : World} (h : Lw b g t f w W) : Lw b g t f w W.drew := h.below (below_drew1 (Below.refl _ _))
theorem Lw.drewN {b g : Nat} {t f : Tm} {w W : World} (h : Lw b g t f w W) (n : Nat) : Lw b g t f w (W.drewN n) := h.below (pw_below_drewN (Below.refl _ _) n)
theorem l1 (w : World) : Calls Try.prog 8 #[.agg #[.int .i64 1, .int .i64 1, .int .i64 8, .int .i64 6, .int .i64 4]] w fun e w' => e = .returned (.bool true) ∧ Below w.heap.size w w' := by
  have := cRight t0 w
  rwa [lv1.1] at this
theorem l2 (w : World) : Calls Try.prog 8 #[.agg #[.int .i64 0, .int .i64 0, .int .i64 0, .int .i64 0, .int .i64 0]] w fun e w' => e = .returned (.bool false) ∧ Below w.heap.size w w' := by
  have := cRight z5 w
  rwa [lv1.2.1] at this
theorem l3 (w : World) : Calls Try.prog 10 #[.agg #[.int .i64 1, .int .i64 1, .int .i64 8, .int .i64 6, .int .i64 4]] w fun e w' => e = .returned (.int .i64 16) ∧ Below w.heap.size w w' := by
  have := cQuanta t0 w
  rwa [lv1.2.2.1] at this
theorem l4 (w : World) : Calls Try.prog 12 #[.agg #[.int .i64 1, .int .i64 1, .int .i64 8, .int .i64 6, .int .i64 4]] w fun e w' => e = .returned (.int .i64 16) ∧ Below w.heap.size w w' := by
  have := cBit t0 w
  rwa [lv1.2.2.2.1] at this
theorem l5 (w : World) : Calls Try.prog 14 #[.agg #[.int .i64 1, .int .i64 1, .int .i64 8, .int .i64 6, .int .i64 4]] w fun e w' => e = .returned (.int .i64 625) ∧ Below w.heap.size w w' := by
  have := cSample t0 w
  rwa [lv1.2.2.2.2.1] at this
theorem l6 (w : World) : Calls Try.prog 16 #[.agg #[.int .i64 1, .int .i64 1, .int .i64 8, .int .i64 6, .int .i64 4]] w fun e w' => e = .returned (.int .i64 12500) ∧ Below w.heap.size w w' := by
  have := cDrift t0 w
  rwa [lv1.2.2.2.2.2.1] at this
theorem l7 (w : World) : Calls Try.prog 18 #[.agg #[.int .i64 1, .int .i64 1, .int .i64 8, .int .i64 6, .int .i64 4], .int .i64 9] w fun e w' => e = .returned (.int .i64 4) ∧ Below w.heap.size w w' := by
  have := cMoved t0 9 w
  rwa [lv1.2.2.2.2.2.2.1] at this
theorem l8 (w : World) : Calls Try.prog 18 #[.agg #[.int .i64 1, .int .i64 1, .int .i64 8, .int .i64 6, .int .i64 4], .int .i64 (-9)] w fun e w' => e = .returned (.int .i64 (-4)) ∧ Below w.heap.size w w' := by
  have := cMoved t0 (-9) w
  rwa [lv1.2.2.2.2.2.2.2] at this
theorem l9 (w : World) : Calls Try.prog 14 #[f0.g] w fun e w' => e = .returned (.int .i64 625) ∧ Below w.heap.size w w' := by
  have := cSample f0 w
  rwa [lv3] at this
theorem l10 (w : World) : Calls Try.prog 20 #[.int .i64 16, .int .i64 625] w fun e w' => e = .returned (.tuple #[f0.g, .bool true]) ∧ Below w.heap.size w w' := by
  have := Find_calls 16 625 w (by decide)
  rwa [lv2] at this
theorem l11 (w : World) : Calls Try.prog 20 #[.int .i64 0, .int .i64 625] w fun e w' => e = .returned (.tuple #[(findV 0 625).1.g, .bool false]) ∧ Below w.heap.size w w' := by
  have := Find_calls 0 625 w (by decide)
  rwa [lv4] at this
theorem l12 (w : World) : Calls Try.prog 22 #[.int .i64 16] w fun e w' => e = .returned (.int .i64 ((allL 16).length : Int)) ∧ Below w.heap.size w w' := All_calls 16 w (by decide)
theorem l13 (w : World) : Calls Try.prog 22 #[.int .i64 7] w fun e w' => e = .returned (.int .i64 0) ∧ Below w.heap.size w w' := by
  have := All_calls 7 w (by decide)
  rwa [lv6] at this
theorem tm0 {w : World} {g : Nat} (h : w.heap[g]? = some t0.cs) : w.cell? ⟨g, 0, none⟩ = some (.int .i64 1) ∧ w.cell? ⟨g, 1, none⟩ = some (.int .i64 1) ∧ w.cell? ⟨g, 2, none⟩ = some (.int .i64 8) ∧ w.cell? ⟨g, 3, none⟩ = some (.int .i64 6) ∧ w.cell? ⟨g, 4, none⟩ = some (.int .i64 4) := tm_cells h
set_option maxHeartbeats 40000000 in
set_option maxRecDepth 100000 in
theorem live_calls (w : World) : Calls Try.prog 7 #[] w fun e w' => e = .returned (.bool true) ∧ Below w.heap.size w w' := by
  have hu23 := Try.underlying23
  have X0 := Aside0.mk (blk_new w t0.cs)
  have B0 := Aside0.mk (below_alloc (Below.refl w.heap.size w) t0.cs)
  have q5 := lv5
  generalize hn : ((allL 16).length : Int) = n at q5
  have L12 := Aside0.mk l12
  rw [hn] at L12
  clear hn
  obtain ⟨f, hf⟩ : ∃ f : Tm, f = f0 := ⟨_, rfl⟩
  have L9 := Aside0.mk l9
  have L10 := Aside0.mk l10
  rw [← hf] at L9 L10
  clear hf
  have L11 := Aside0.mk l11
  obtain ⟨f2, hf⟩ : ∃ f : Tm, f = (findV 0 625).1 := ⟨_, rfl⟩
  rw [← hf] at L11
  clear hf
  go_enter Try.func7, Try.ntmps7
  go_wp2_with fail
  (with_reducible refine (L10.out _).mono ?_)
  rintro e w1 ⟨rfl, hb⟩
  have X1 := Aside0.mk (blk_below X0.out hb)
  have B1 := Aside0.mk (below_step B0.out hb)
  clear hb X0 B0
  go_wp2_with fail
  (with_reducible refine (L11.out _).mono ?_)
  rintro e w2 ⟨rfl, hb⟩
  have Z : Aside0 (Lw w.heap.size w1.heap.size t0 f w (w2.alloc f2.cs)) := ⟨(Lw.mk (blk_below (blk_below X1.out (below_alloc (Below.refl _ _) f.cs)) hb) (blk_below (blk_new w1 f.cs) hb) (below_step (below_alloc B1.out f.cs) hb)).below (below_alloc (Below.refl _ _) f2.cs)⟩
  obtain ⟨c0, c1, c2, c3, c4⟩ := tm0 Z.out.k1
  obtain ⟨d0, d1, d2, d3, d4⟩ := tm_cells Z.out.k2
  clear hb X1 B1
  go_wp2_with
    (first
      | (go_at_call 8; (with_reducible refine (l1 _).mono ?_); rintro e w5 ⟨rfl, hb⟩; have n0 : Aside0 (Lw w.heap.size w1.heap.size t0 f w w5) := ⟨Z.out.below hb⟩; clear hb; clear Z; have Z := n0; clear n0; clear c0 c1 c2 c3 c4 d0 d1 d2 d3 d4; obtain ⟨c0, c1, c2, c3, c4⟩ := tm0 Z.out.k1; obtain ⟨d0, d1, d2, d3, d4⟩ := tm_cells Z.out.k2)
      | (go_at_call 8; (with_reducible refine (l2 _).mono ?_); rintro e w5 ⟨rfl, hb⟩; have n0 : Aside0 (Lw w.heap.size w1.heap.size t0 f w w5) := ⟨Z.out.below hb⟩; clear hb; clear Z; have Z := n0; clear n0; clear c0 c1 c2 c3 c4 d0 d1 d2 d3 d4; obtain ⟨c0, c1, c2, c3, c4⟩ := tm0 Z.out.k1; obtain ⟨d0, d1, d2, d3, d4⟩ := tm_cells Z.out.k2)
      | (go_at_call 10; (with_reducible refine (l3 _).mono ?_); rintro e w5 ⟨rfl, hb⟩; have n0 : Aside0 (Lw w.heap.size w1.heap.size t0 f w w5) := ⟨Z.out.below hb⟩; clear hb; clear Z; have Z := n0; clear n0; clear c0 c1 c2 c3 c4 d0 d1 d2 d3 d4; obtain ⟨c0, c1, c2, c3, c4⟩ := tm0 Z.out.k1; obtain ⟨d0, d1, d2, d3, d4⟩ := tm_cells Z.out.k2)
      | (go_at_call 12; (with_reducible refine (l4 _).mono ?_); rintro e w5 ⟨rfl, hb⟩; have n0 : Aside0 (Lw w.heap.size w1.heap.size t0 f w w5) := ⟨Z.out.below hb⟩; clear hb; clear Z; have Z := n0; clear n0; clear c0 c1 c2 c3 c4 d0 d1 d2 d3 d4; obtain ⟨c0, c1, c2, c3, c4⟩ := tm0 Z.out.k1; obtain ⟨d0, d1, d2, d3, d4⟩ := tm_cells Z.out.k2)
      | (go_at_call 14; (with_reducible refine (l5 _).mono ?_); rintro e w5 ⟨rfl, hb⟩; have n0 : Aside0 (Lw w.heap.size w1.heap.size t0 f w w5) := ⟨Z.out.below hb⟩; clear hb; clear Z; have Z := n0; clear n0; clear c0 c1 c2 c3 c4 d0 d1 d2 d3 d4; obtain ⟨c0, c1, c2, c3, c4⟩ := tm0 Z.out.k1; obtain ⟨d0, d1, d2, d3, d4⟩ := tm_cells Z.out.k2)
      | (go_at_call 16; (with_reducible refine (l6 _).mono ?_); rintro e w5 ⟨rfl, hb⟩; have n0 : Aside0 (Lw w.heap.size w1.heap.size t0 f w w5) := ⟨Z.out.below hb⟩; clear hb; clear Z; have Z := n0; clear n0; clear c0 c1 c2 c3 c4 d0 d1 d2 d3 d4; obtain ⟨c0, c1, c2, c3, c4⟩ := tm0 Z.out.k1; obtain ⟨d0, d1, d2, d3, d4⟩ := tm_cells Z.out.k2)
      | (go_at_call 14; (with_reducible refine (L9.out _).mono ?_); rintro e w5 ⟨rfl, hb⟩; have n0 : Aside0 (Lw w.heap.size w1.heap.size t0 f w w5) := ⟨Z.out.below hb⟩; clear hb; clear Z; have Z := n0; clear n0; clear c0 c1 c2 c3 c4 d0 d1 d2 d3 d4; obtain ⟨c0, c1, c2, c3, c4⟩ := tm0 Z.out.k1; obtain ⟨d0, d1, d2, d3, d4⟩ := tm_cells Z.out.k2)
      | (go_at_call 22; (with_reducible refine (L12.out _).mono ?_); rintro e w5 ⟨rfl, hb⟩; have n0 : Aside0 (Lw w.heap.size w1.heap.size t0 f w w5) := ⟨Z.out.below hb⟩; clear hb; clear Z; have Z := n0; clear n0; clear c0 c1 c2 c3 c4 d0 d1 d2 d3 d4; obtain ⟨c0, c1, c2, c3, c4⟩ := tm0 Z.out.k1; obtain ⟨d0, d1, d2, d3, d4⟩ := tm_cells Z.out.k2)
      | (go_at_call 22; (with_reducible refine (l13 _).mono ?_); rintro e w5 ⟨rfl, hb⟩; have n0 : Aside0 (Lw w.heap.size w1.heap.size t0 f w w5) := ⟨Z.out.below hb⟩; clear hb; clear Z; have Z := n0; clear n0; clear c0 c1 c2 c3 c4 d0 d1 d2 d3 d4; obtain ⟨c0, c1, c2, c3, c4⟩ := tm0 Z.out.k1; obtain ⟨d0, d1, d2, d3, d4⟩ := tm_cells Z.out.k2)
      | (go_at_call 18; (with_reducible refine (l7 _).mono ?_); rintro e w5 ⟨rfl, hb⟩; have n0 : Aside0 (Lw w.heap.size w1.heap.size t0 f w w5) := ⟨Z.out.below hb⟩; clear hb; clear Z; have Z := n0; clear n0; clear c0 c1 c2 c3 c4 d0 d1 d2 d3 d4; obtain ⟨c0, c1, c2, c3, c4⟩ := tm0 Z.out.k1; obtain ⟨d0, d1, d2, d3, d4⟩ := tm_cells Z.out.k2)
      | (go_at_call 18; (with_reducible refine (l8 _).mono ?_); rintro e w5 ⟨rfl, hb⟩; have n0 : Aside0 (Lw w.heap.size w1.heap.size t0 f w w5) := ⟨Z.out.below hb⟩; clear hb; clear Z; have Z := n0; clear n0; clear c0 c1 c2 c3 c4 d0 d1 d2 d3 d4; obtain ⟨c0, c1, c2, c3, c4⟩ := tm0 Z.out.k1; obtain ⟨d0, d1, d2, d3, d4⟩ := tm_cells Z.out.k2))
  go_ret
  exact ⟨rfl, Z.out.B⟩
end Go.Proofs.Ytgekhkigeanajaa.P
