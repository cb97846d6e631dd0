/- Any config's slope and bounds: the walk through the law. Condition: the numbers are within 64 bits. -/
import Derived.Test.YtjnllejfgljkdaaAccordBoundsPlain
namespace Go.Proofs.Ytjnllejfgljkdaa.P
open Go.RowKit Go.Proofs.YtjnllejfgljkdaaW.PrintWords Go.Proofs.YtjnllejfgljkdaaW.PrintLast Go.Proofs.YtjnllejfgljkdaaW.PrintMore
set_option linter.unusedVariables false
set_option linter.unusedSimpArgs false
theorem bd_step {w W W' : World} {g : Nat} {o : Obj} (hX : Aside0 (W.heap[g]? = some o)) (hB : Aside0 (Below w.heap.size w W)) (hb : Below W.heap.size W W') : Aside0 (W'.heap[g]? = some o) ∧ Aside0 (Below w.heap.size w W') := ⟨⟨blk_below hX.out hb⟩, ⟨below_step hB.out hb⟩⟩
set_option maxHeartbeats 8000000 in
set_option maxRecDepth 100000 in
theorem Bounds_core (k : Nat) (n d t b x s : Int) (ok rt : Bool) (w : World) (h7 : accord_Bound.f k n d t b = some (x, ok)) (h9 : bellbuoylaw19_plain.f n d t = some (n, d, t)) (h8 : bellbuoyref19_Bound.f k n d t b = some (x, ok))
    (h11 : accord_Right.f n d t = some rt) (h12 : bellbuoyref19_Right.f n d t = some rt) (h13 : accord_Slope.f n d t = some s) (h14 : bellbuoyref19_Slope.f n d t = some s) :
    Calls Try.prog 3 #[.agg #[.int .i64 n, .int .i64 d, .int .i64 t], .int .i64 b] w fun e w' => e = .returned (.bool true) ∧ Below w.heap.size w w' := by
  have H7 := Aside0.mk h7
  have H8 := Aside0.mk h8
  have H9 := Aside0.mk h9
  have H11 := Aside0.mk h11
  have H12 := Aside0.mk h12
  have H13 := Aside0.mk h13
  have H14 := Aside0.mk h14
  clear h7 h8 h9 h11 h12 h13 h14
  have hu25 := Try.underlying25
  have q1 : (rt == rt) = true := by simp
  have q2 : (s == s) = true := by simp
  have q3 : (x == x) = true := by simp
  have q4 : (ok == ok) = true := by simp
  have X0 := Aside0.mk (blk_new w (.cells #[.int .i64 n, .int .i64 d, .int .i64 t] 25))
  have B0 := Aside0.mk (below_alloc (Below.refl w.heap.size w) (.cells #[.int .i64 n, .int .i64 d, .int .i64 t] 25))
  obtain ⟨c0, c1, c2⟩ := cells3a X0.out
  go_enter Try.func3, Try.ntmps3
  go_wp2_with fail
  (with_reducible refine (accord_Bound.calls k n d t b x ok _ H7.out).mono ?_); rintro e w1 ⟨rfl, hb⟩
  obtain ⟨X1, B1⟩ := bd_step X0 B0 hb
  clear hb X0 B0 c0 c1 c2
  obtain ⟨c0, c1, c2⟩ := cells3a X1.out
  go_wp2_with fail
  (with_reducible refine (bellbuoylaw19_plain.calls n d t n d t _ H9.out).mono ?_); rintro e w2 ⟨rfl, hb⟩
  obtain ⟨X2, B2⟩ := bd_step X1 B1 hb
  clear hb X1 B1 c0 c1 c2
  go_wp2_with fail
  (with_reducible refine (bellbuoyref19_Bound.calls k n d t b x ok _ H8.out).mono ?_); rintro e w3 ⟨rfl, hb⟩
  obtain ⟨X3, B3⟩ := bd_step X2 B2 hb
  clear hb X2 B2
  obtain ⟨c0, c1, c2⟩ := cells3a X3.out
  go_wp2_with fail
  go_region_held3 (fun w' => w'.cell? ⟨w.heap.size, 0, none⟩ = some (.int .i64 n) ∧ w'.cell? ⟨w.heap.size, 1, none⟩ = some (.int .i64 d) ∧ w'.cell? ⟨w.heap.size, 2, none⟩ = some (.int .i64 t)) (go_keep)
    (first
      | (go_at_call 10; (with_reducible refine (live_walk _).mono ?_); rintro e w4 ⟨rfl, hb⟩; obtain ⟨X4, B4⟩ := bd_step ⟨blk_drew X3.out⟩ ⟨below_drew1 B3.out⟩ hb; clear hb c0 c1 c2; obtain ⟨c0, c1, c2⟩ := cells3a X4.out)
      | (go_at_call 11; (with_reducible refine (accord_Right.calls n d t rt _ H11.out).mono ?_); rintro e w5 ⟨rfl, hb⟩; obtain ⟨X5, B5⟩ := bd_step X4 B4 hb; clear hb c0 c1 c2; obtain ⟨c0, c1, c2⟩ := cells3a X5.out; have F1 := Aside0.mk trivial)
      | (go_at_call 9; (with_reducible refine (bellbuoylaw19_plain.calls n d t n d t _ H9.out).mono ?_); rintro e w6 ⟨rfl, hb⟩; obtain ⟨X6, B6⟩ := bd_step X5 B5 hb; clear hb c0 c1 c2 F1; obtain ⟨c0, c1, c2⟩ := cells3a X6.out)
      | (go_at_call 12; (with_reducible refine (bellbuoyref19_Right.calls n d t rt _ H12.out).mono ?_); rintro e w7 ⟨rfl, hb⟩; obtain ⟨X7, B7⟩ := bd_step X6 B6 hb; clear hb c0 c1 c2; obtain ⟨c0, c1, c2⟩ := cells3a X7.out)
      | (go_at_call 13; (with_reducible refine (accord_Slope.calls n d t s _ H13.out).mono ?_); rintro e w8 ⟨rfl, hb⟩; obtain ⟨X8, B8⟩ := bd_step X7 B7 hb; clear hb c0 c1 c2; obtain ⟨c0, c1, c2⟩ := cells3a X8.out)
      | (go_at_call 9; (with_reducible refine (bellbuoylaw19_plain.calls n d t n d t _ H9.out).mono ?_); rintro e w9 ⟨rfl, hb⟩; obtain ⟨X9, B9⟩ := bd_step X8 B8 hb; clear hb c0 c1 c2; obtain ⟨c0, c1, c2⟩ := cells3a X9.out)
      | (go_at_call 14; (with_reducible refine (bellbuoyref19_Slope.calls n d t s _ H14.out).mono ?_); rintro e w10 ⟨rfl, hb⟩; obtain ⟨X10, B10⟩ := bd_step X9 B9 hb; clear hb c0 c1 c2; obtain ⟨c0, c1, c2⟩ := cells3a X10.out))
  go_wp2_with fail
  go_ret
  exact ⟨by simp, B10.out⟩
theorem AccordBounds_walk (a0_0 a0_1 a0_2 a1 : Int) (w : World) (w0_0 : (Lit.int .i64 a0_0).wf = true) (w0_1 : (Lit.int .i64 a0_1).wf = true) (w0_2 : (Lit.int .i64 a0_2).wf = true) (w1 : (Lit.int .i64 a1).wf = true) :
    Calls Try.prog 3 #[.agg #[.int .i64 a0_0, .int .i64 a0_1, .int .i64 a0_2], .int .i64 a1] w fun e w' => e = .returned (.bool true) ∧ Below w.heap.size w w' := by
  have h := (wf64 w0_0).def
  cases hr : rB a0_0 a0_1 a0_2 with
  | true => exact Bounds_core 200 a0_0 a0_1 a0_2 a1 _ _ _ true w (accBound_eq _ _ _ _ h.1 h.2 199) rfl (refBound_eq _ _ _ _ 199 (by omega)) (by rw [accRight_eq _ _ _ h.1 h.2, hr]) (by rw [refRight19, hr]) (accSlope_eq _ _ _ hr) (refSlope_eq _ _ _ hr)
  | false => exact Bounds_core 200 a0_0 a0_1 a0_2 a1 _ _ _ false w (accBound_eq _ _ _ _ h.1 h.2 199) rfl (refBound_eq _ _ _ _ 199 (by omega)) (by rw [accRight_eq _ _ _ h.1 h.2, hr]) (by rw [refRight19, hr]) (accSlope_no _ _ _ h.1 h.2 hr) (refSlope_no _ _ _ hr)
end Go.Proofs.Ytjnllejfgljkdaa.P
