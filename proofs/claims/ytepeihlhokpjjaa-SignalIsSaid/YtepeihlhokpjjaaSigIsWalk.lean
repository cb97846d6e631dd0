/- Whether any signal can be, where it stands, what can stand there, what does, and what it is worth: the walk. Condition: the numbers are of their kinds. -/
import Derived.Test.YtepeihlhokpjjaaSigBackWalk
import Derived.Test.YtepeihlhokpjjaaSigRPut
import Derived.ChangeKeysEq
namespace Go.Proofs.Ytepeihlhokpjjaa.P
open Go.RowKit Go.Proofs.YtepeihlhokpjjaaW.PrintWords Go.Proofs.YtepeihlhokpjjaaW.PrintLast Go.Proofs.YtepeihlhokpjjaaW.PrintMore
set_option linter.unusedVariables false
set_option linter.unusedSimpArgs false
theorem eqO (y0 y1 y2 y3 y4 y5 y6 y7 : Int) (w : World) : (binOp .eql 24 (.agg (oct y0 y1 y2 y3 y4 y5 y6 y7)) (.agg (oct y0 y1 y2 y3 y4 y5 y6 y7))).run Try.prog w = .ok (.bool true) w := by
  have e := run_equalIn_array (P := Try.prog) w 9999 (oct y0 y1 y2 y3 y4 y5 y6 y7) (oct y0 y1 y2 y3 y4 y5 y6 y7) Try.underlying24 (i := Try.t5) rfl
  rw [show List.range 8 = [0, 1, 2, 3, 4, 5, 6, 7] from rfl, show Try.prog.cellsOf 5 = 1 by kernel_rfl] at e
  simp only [binOp]
  simp [Op.equal, Op.maxDepth, e, Op.eqItems, go_sem]
theorem RRange_walk (s : Sg) (w : World) : Calls Try.prog 11 #[s.g] w fun e w' => e = .returned (.tuple #[.int .i64 (rangeV s).1, .int .i64 (rangeV s).2]) ∧ Below w.heap.size w w' := bellbuoyref37_Range.calls 198 _ _ _ _ _ _ (rangeV s).1 (rangeV s).2 w (RRange_eq s)
theorem RWorth_walk (s : Sg) {raw : Int} (h1 : In64 raw) (h2 : In64 s.sc) (h3 : In64 s.off) (w : World) : Calls Try.prog 13 #[s.g, .int .i64 raw] w fun e w' => e = .returned (.tuple #[.int .i64 (worthV s raw).1, .bool (worthV s raw).2]) ∧ Below w.heap.size w w' := bellbuoyref37_Worth.calls 198 _ _ _ _ _ _ _ (worthV s raw).1 (worthV s raw).2 w (RWorth_eq s h1 h2 h3)
theorem RRaw_walk (s : Sg) {x : Int} (h1 : In64 x) (h2 : In64 s.sc) (h3 : In64 s.off) (w : World) : Calls Try.prog 15 #[s.g, .int .i64 x] w fun e w' => e = .returned (.tuple #[.int .i64 (rawV s x).1, .bool (rawV s x).2]) ∧ Below w.heap.size w w' := by
  obtain ⟨k, hk⟩ := RRaw_eq s h1 h2 h3
  exact bellbuoyref37_Raw.calls k _ _ _ _ _ _ _ (rawV s x).1 (rawV s x).2 w hk
theorem Same_calls {l : List Int} (hl : l.length ≤ 64) {A1 A2 : Option Addr} {c1 c2 : Nat} (h1 : l.length ≤ c1) (h2 : l.length ≤ c2) {w : World} (hA : (Kd.int .i64).C w A1 l.length l) (hB : (Kd.int .i64).C w A2 l.length l) :
    Calls Try.prog 19 #[.slice A1 l.length c1, .slice A2 l.length c2] w fun e w' => e = .returned (.bool true) ∧ Below w.heap.size w w' :=
  (bellbuoyref15_SameInts.calls (l.length + 1) A1 c1 l A2 c2 l true w hA h1 hB h2 (Same_eq l (by omega))).mono (fun e w' h => ⟨h.1, h.2.below⟩)
structure Ik (a0 : Int) (a1 : Int) (a2 : Bool) (a3 : Bool) (a4 : Int) (a5 : Int) (d0 d1 d2 d3 d4 d5 d6 d7 y0 y1 y2 y3 y4 y5 y6 y7 : Int) (b1 b2 b3 b4 : Nat) (w W : World) : Prop where
  k1 : W.heap[b1]? = some (.cells #[.int .i64 a0, .int .i64 a1, .bool a2, .bool a3, .int .i64 a4, .int .i64 a5] 23 (0, 0))
  k2 : W.heap[b2]? = some (.cells (oct d0 d1 d2 d3 d4 d5 d6 d7) 24 (0, 0))
  k3 : W.heap[b3]? = some (.cells (oct y0 y1 y2 y3 y4 y5 y6 y7) 24 (0, 0))
  k4 : W.heap[b4]? = some (.cells (oct y0 y1 y2 y3 y4 y5 y6 y7) 24 (0, 0))
  B : Below w.heap.size w W
theorem Ik.below {a0 : Int} {a1 : Int} {a2 : Bool} {a3 : Bool} {a4 : Int} {a5 : Int} {d0 d1 d2 d3 d4 d5 d6 d7 y0 y1 y2 y3 y4 y5 y6 y7 : Int} {b1 b2 b3 b4 : Nat} {w W W' : World} (h : Ik a0 a1 a2 a3 a4 a5 d0 d1 d2 d3 d4 d5 d6 d7 y0 y1 y2 y3 y4 y5 y6 y7 b1 b2 b3 b4 w W) (hb : Below W.heap.size W W') : Ik a0 a1 a2 a3 a4 a5 d0 d1 d2 d3 d4 d5 d6 d7 y0 y1 y2 y3 y4 y5 y6 y7 b1 b2 b3 b4 w W' := ⟨blk_below h.k1 hb, blk_below h.k2 hb, blk_below h.k3 hb, blk_below h.k4 hb, below_step h.B hb⟩
set_option maxHeartbeats 80000000 in
set_option maxRecDepth 100000 in
theorem SignalIs_core (a0 : Int) (a1 : Int) (a2 : Bool) (a3 : Bool) (a4 : Int) (a5 : Int) (d0 d1 d2 d3 d4 d5 d6 d7 n : Int) (w : World) (hd : Byts [d0, d1, d2, d3, d4, d5, d6, d7]) (hn : In64 n) (h4 : In64 a4) (h5 : In64 a5) :
    Calls Try.prog 3 #[.agg #[.int .i64 a0, .int .i64 a1, .bool a2, .bool a3, .int .i64 a4, .int .i64 a5], .agg (oct d0 d1 d2 d3 d4 d5 d6 d7), .int .i64 n] w fun e w' => e = .returned (.bool true) ∧ Below w.heap.size w w' := by
  have hu23 := Try.underlying23
  have hu24 := Try.underlying24
  have hO := eqO
  have L8 := putV_len [d0, d1, d2, d3, d4, d5, d6, d7] ⟨a0, a1, a2, a3, a4, a5⟩ n rfl
  have P1 := fun w => Put_walk [d0, d1, d2, d3, d4, d5, d6, d7] rfl ⟨a0, a1, a2, a3, a4, a5⟩ n w
  have P2 := fun w => RPut_walk [d0, d1, d2, d3, d4, d5, d6, d7] hd ⟨a0, a1, a2, a3, a4, a5⟩ n w
  obtain ⟨pv, hpv⟩ : ∃ pv, putV [d0, d1, d2, d3, d4, d5, d6, d7] ⟨a0, a1, a2, a3, a4, a5⟩ n = pv := ⟨_, rfl⟩
  rw [hpv] at L8 P1 P2
  clear hpv
  obtain ⟨y, er⟩ := pv
  dsimp only at L8 P1 P2
  obtain ⟨y0, y1, y2, y3, y4, y5, y6, y7, rfl⟩ := eight L8
  obtain ⟨lo, hrg1⟩ : ∃ x, (rangeV ⟨a0, a1, a2, a3, a4, a5⟩).1 = x := ⟨_, rfl⟩
  obtain ⟨hi, hrg2⟩ : ∃ x, (rangeV ⟨a0, a1, a2, a3, a4, a5⟩).2 = x := ⟨_, rfl⟩
  obtain ⟨wo, hwo1⟩ : ∃ x, (worthV ⟨a0, a1, a2, a3, a4, a5⟩ n).1 = x := ⟨_, rfl⟩
  obtain ⟨wk, hwo2⟩ : ∃ x, (worthV ⟨a0, a1, a2, a3, a4, a5⟩ n).2 = x := ⟨_, rfl⟩
  obtain ⟨ra, hra1⟩ : ∃ x, (rawV ⟨a0, a1, a2, a3, a4, a5⟩ n).1 = x := ⟨_, rfl⟩
  obtain ⟨rk, hra2⟩ : ∃ x, (rawV ⟨a0, a1, a2, a3, a4, a5⟩ n).2 = x := ⟨_, rfl⟩
  obtain ⟨rt, hrt⟩ : ∃ x, (!badS ⟨a0, a1, a2, a3, a4, a5⟩) = x := ⟨_, rfl⟩
  obtain ⟨gv, hgv⟩ : ∃ x, getV [d0, d1, d2, d3, d4, d5, d6, d7] ⟨a0, a1, a2, a3, a4, a5⟩ = x := ⟨_, rfl⟩
  have F8 : Aside0 (∀ w, Calls Try.prog 8 #[.agg (oct d0 d1 d2 d3 d4 d5 d6 d7), .agg #[.int .i64 a0, .int .i64 a1, .bool a2, .bool a3, .int .i64 a4, .int .i64 a5], .int .i64 n] w fun e w' => e = .returned (.tuple #[.agg (oct y0 y1 y2 y3 y4 y5 y6 y7), .int .i64 er]) ∧ Below w.heap.size w w') := ⟨P1⟩
  have F9 : Aside0 (∀ w, Calls Try.prog 9 #[.agg (oct d0 d1 d2 d3 d4 d5 d6 d7), .agg #[.int .i64 a0, .int .i64 a1, .bool a2, .bool a3, .int .i64 a4, .int .i64 a5], .int .i64 n] w fun e w' => e = .returned (.tuple #[.agg (oct y0 y1 y2 y3 y4 y5 y6 y7), .int .i64 er]) ∧ Below w.heap.size w w') := ⟨P2⟩
  have F10 : Aside0 (∀ w, Calls Try.prog 10 #[.agg #[.int .i64 a0, .int .i64 a1, .bool a2, .bool a3, .int .i64 a4, .int .i64 a5]] w fun e w' => e = .returned (.tuple #[.int .i64 lo, .int .i64 hi]) ∧ Below w.heap.size w w') := ⟨by rw [← hrg1, ← hrg2]; exact fun w => Range_walk ⟨a0, a1, a2, a3, a4, a5⟩ w⟩
  have F11 : Aside0 (∀ w, Calls Try.prog 11 #[.agg #[.int .i64 a0, .int .i64 a1, .bool a2, .bool a3, .int .i64 a4, .int .i64 a5]] w fun e w' => e = .returned (.tuple #[.int .i64 lo, .int .i64 hi]) ∧ Below w.heap.size w w') := ⟨by rw [← hrg1, ← hrg2]; exact fun w => RRange_walk ⟨a0, a1, a2, a3, a4, a5⟩ w⟩
  have F12 : Aside0 (∀ w, Calls Try.prog 12 #[.agg #[.int .i64 a0, .int .i64 a1, .bool a2, .bool a3, .int .i64 a4, .int .i64 a5], .int .i64 n] w fun e w' => e = .returned (.tuple #[.int .i64 wo, .bool wk]) ∧ Below w.heap.size w w') := ⟨by rw [← hwo1, ← hwo2]; exact fun w => Worth_walk ⟨a0, a1, a2, a3, a4, a5⟩ hn h4 h5 w⟩
  have F13 : Aside0 (∀ w, Calls Try.prog 13 #[.agg #[.int .i64 a0, .int .i64 a1, .bool a2, .bool a3, .int .i64 a4, .int .i64 a5], .int .i64 n] w fun e w' => e = .returned (.tuple #[.int .i64 wo, .bool wk]) ∧ Below w.heap.size w w') := ⟨by rw [← hwo1, ← hwo2]; exact fun w => RWorth_walk ⟨a0, a1, a2, a3, a4, a5⟩ hn h4 h5 w⟩
  have F14 : Aside0 (∀ w, Calls Try.prog 14 #[.agg #[.int .i64 a0, .int .i64 a1, .bool a2, .bool a3, .int .i64 a4, .int .i64 a5], .int .i64 n] w fun e w' => e = .returned (.tuple #[.int .i64 ra, .bool rk]) ∧ Below w.heap.size w w') := ⟨by rw [← hra1, ← hra2]; exact fun w => Raw_walk ⟨a0, a1, a2, a3, a4, a5⟩ hn h4 h5 w⟩
  have F15 : Aside0 (∀ w, Calls Try.prog 15 #[.agg #[.int .i64 a0, .int .i64 a1, .bool a2, .bool a3, .int .i64 a4, .int .i64 a5], .int .i64 n] w fun e w' => e = .returned (.tuple #[.int .i64 ra, .bool rk]) ∧ Below w.heap.size w w') := ⟨by rw [← hra1, ← hra2]; exact fun w => RRaw_walk ⟨a0, a1, a2, a3, a4, a5⟩ hn h4 h5 w⟩
  have F17 : Aside0 (∀ w, Calls Try.prog 17 #[.agg #[.int .i64 a0, .int .i64 a1, .bool a2, .bool a3, .int .i64 a4, .int .i64 a5]] w fun e w' => e = .returned (.bool rt) ∧ Below w.heap.size w w') := ⟨by rw [← hrt]; exact fun w => Right_walk ⟨a0, a1, a2, a3, a4, a5⟩ w⟩
  have F18 : Aside0 (∀ w, Calls Try.prog 18 #[.agg #[.int .i64 a0, .int .i64 a1, .bool a2, .bool a3, .int .i64 a4, .int .i64 a5]] w fun e w' => e = .returned (.bool rt) ∧ Below w.heap.size w w') := ⟨by rw [← hrt]; exact fun w => RRight_walk ⟨a0, a1, a2, a3, a4, a5⟩ w⟩
  have F22 : Aside0 (∀ w, Calls Try.prog 22 #[.agg (oct d0 d1 d2 d3 d4 d5 d6 d7), .agg #[.int .i64 a0, .int .i64 a1, .bool a2, .bool a3, .int .i64 a4, .int .i64 a5]] w fun e w' => e = .returned (.int .i64 gv) ∧ Below w.heap.size w w') := ⟨by rw [← hgv]; exact fun w => Get_walk [d0, d1, d2, d3, d4, d5, d6, d7] rfl ⟨a0, a1, a2, a3, a4, a5⟩ w⟩
  have F23 : Aside0 (∀ w, Calls Try.prog 23 #[.agg (oct d0 d1 d2 d3 d4 d5 d6 d7), .agg #[.int .i64 a0, .int .i64 a1, .bool a2, .bool a3, .int .i64 a4, .int .i64 a5]] w fun e w' => e = .returned (.int .i64 gv) ∧ Below w.heap.size w w') := ⟨by rw [← hgv]; exact fun w => RGet_walk [d0, d1, d2, d3, d4, d5, d6, d7] hd ⟨a0, a1, a2, a3, a4, a5⟩ w⟩
  have PL := Aside0.mk (placesV_len ⟨a0, a1, a2, a3, a4, a5⟩)
  have F20 := Aside0.mk (fun w => Places_walk ⟨a0, a1, a2, a3, a4, a5⟩ w)
  have F21 := Aside0.mk (fun w => RPlaces_walk ⟨a0, a1, a2, a3, a4, a5⟩ w)
  generalize placesV ⟨a0, a1, a2, a3, a4, a5⟩ = l at PL F20 F21
  clear hrg1 hrg2 hwo1 hwo2 hra1 hra2 hrt hgv P1 P2 hd hn h4 h5 L8
  have q1 : (rt == rt) = true := by simp
  have q2 : (gv == gv) = true := by simp
  have q3 : (er == er) = true := by simp
  have q4 : (lo == lo) = true := by simp
  have q5 : (hi == hi) = true := by simp
  have q6 : (wo == wo) = true := by simp
  have q7 : (wk == wk) = true := by simp
  have q8 : (ra == ra) = true := by simp
  have q9 : (rk == rk) = true := by simp
  have K1 := Aside0.mk (blk_below (blk_new w (.cells #[.int .i64 a0, .int .i64 a1, .bool a2, .bool a3, .int .i64 a4, .int .i64 a5] 23)) (below_alloc (Below.refl _ _) (.cells (oct d0 d1 d2 d3 d4 d5 d6 d7) 24)))
  have K2 := Aside0.mk (blk_new2 w (.cells #[.int .i64 a0, .int .i64 a1, .bool a2, .bool a3, .int .i64 a4, .int .i64 a5] 23) (.cells (oct d0 d1 d2 d3 d4 d5 d6 d7) 24))
  have B0 := Aside0.mk (below_alloc (below_alloc (Below.refl w.heap.size w) (.cells #[.int .i64 a0, .int .i64 a1, .bool a2, .bool a3, .int .i64 a4, .int .i64 a5] 23)) (.cells (oct d0 d1 d2 d3 d4 d5 d6 d7) 24))
  obtain ⟨s0, s1, s2, s3, s4, s5⟩ := sgl_cells K1.out
  obtain ⟨e0, e1, e2, e3, e4, e5, e6, e7⟩ := oct_cells K2.out
  go_enter Try.func3, Try.ntmps3
  go_wp2_with fail
  (with_reducible refine (F8.out _).mono ?_)
  rintro e W1 ⟨rfl, hb⟩
  have n1 := Aside0.mk (blk_below (blk_below K1.out hb) (below_alloc (Below.refl _ _) (.cells (oct y0 y1 y2 y3 y4 y5 y6 y7) 24)))
  have n2 := Aside0.mk (blk_below (blk_below K2.out hb) (below_alloc (Below.refl _ _) (.cells (oct y0 y1 y2 y3 y4 y5 y6 y7) 24)))
  have n3 := Aside0.mk (blk_new W1 (.cells (oct y0 y1 y2 y3 y4 y5 y6 y7) 24))
  have nB := Aside0.mk (below_alloc (below_step B0.out hb) (.cells (oct y0 y1 y2 y3 y4 y5 y6 y7) 24))
  clear K1 K2 B0 hb s0 s1 s2 s3 s4 s5 e0 e1 e2 e3 e4 e5 e6 e7
  obtain ⟨s0, s1, s2, s3, s4, s5⟩ := sgl_cells n1.out
  obtain ⟨e0, e1, e2, e3, e4, e5, e6, e7⟩ := oct_cells n2.out
  go_wp2_with fail
  (with_reducible refine (F9.out _).mono ?_)
  rintro e W2 ⟨rfl, hb⟩
  have Z1 : Ik a0 a1 a2 a3 a4 a5 d0 d1 d2 d3 d4 d5 d6 d7 y0 y1 y2 y3 y4 y5 y6 y7 w.heap.size (w.heap.size + 1) W1.heap.size W2.heap.size w (W2.alloc (.cells (oct y0 y1 y2 y3 y4 y5 y6 y7) 24)) := ⟨blk_below (blk_below n1.out hb) (below_alloc (Below.refl _ _) _), blk_below (blk_below n2.out hb) (below_alloc (Below.refl _ _) _), blk_below (blk_below n3.out hb) (below_alloc (Below.refl _ _) _), blk_new _ _, below_alloc (below_step nB.out hb) _⟩
  have Z := Aside0.mk Z1
  clear Z1 n1 n2 n3 nB hb s0 s1 s2 s3 s4 s5 e0 e1 e2 e3 e4 e5 e6 e7
  obtain ⟨s0, s1, s2, s3, s4, s5⟩ := sgl_cells Z.out.k1
  obtain ⟨e0, e1, e2, e3, e4, e5, e6, e7⟩ := oct_cells Z.out.k2
  obtain ⟨f0, f1, f2, f3, f4, f5, f6, f7⟩ := oct_cells Z.out.k3
  obtain ⟨g0, g1, g2, g3, g4, g5, g6, g7⟩ := oct_cells Z.out.k4
  go_wp2_with
    (first
      | (go_at_call 10; (with_reducible refine (F10.out _).mono ?_); rintro e w5 ⟨rfl, hb⟩; have n0 := Aside0.mk (show Ik a0 a1 a2 a3 a4 a5 d0 d1 d2 d3 d4 d5 d6 d7 y0 y1 y2 y3 y4 y5 y6 y7 w.heap.size (w.heap.size + 1) W1.heap.size W2.heap.size w w5 by first | exact Z.out.below hb | exact (Z.out.below (below_drew1 (Below.refl _ _))).below hb); clear hb Z; clear s0 s1 s2 s3 s4 s5 e0 e1 e2 e3 e4 e5 e6 e7 f0 f1 f2 f3 f4 f5 f6 f7 g0 g1 g2 g3 g4 g5 g6 g7; have Z := n0; clear n0; obtain ⟨s0, s1, s2, s3, s4, s5⟩ := sgl_cells Z.out.k1; obtain ⟨e0, e1, e2, e3, e4, e5, e6, e7⟩ := oct_cells Z.out.k2; obtain ⟨f0, f1, f2, f3, f4, f5, f6, f7⟩ := oct_cells Z.out.k3; obtain ⟨g0, g1, g2, g3, g4, g5, g6, g7⟩ := oct_cells Z.out.k4)
      | (go_at_call 11; (with_reducible refine (F11.out _).mono ?_); rintro e w5 ⟨rfl, hb⟩; have n0 := Aside0.mk (show Ik a0 a1 a2 a3 a4 a5 d0 d1 d2 d3 d4 d5 d6 d7 y0 y1 y2 y3 y4 y5 y6 y7 w.heap.size (w.heap.size + 1) W1.heap.size W2.heap.size w w5 by first | exact Z.out.below hb | exact (Z.out.below (below_drew1 (Below.refl _ _))).below hb); clear hb Z; clear s0 s1 s2 s3 s4 s5 e0 e1 e2 e3 e4 e5 e6 e7 f0 f1 f2 f3 f4 f5 f6 f7 g0 g1 g2 g3 g4 g5 g6 g7; have Z := n0; clear n0; obtain ⟨s0, s1, s2, s3, s4, s5⟩ := sgl_cells Z.out.k1; obtain ⟨e0, e1, e2, e3, e4, e5, e6, e7⟩ := oct_cells Z.out.k2; obtain ⟨f0, f1, f2, f3, f4, f5, f6, f7⟩ := oct_cells Z.out.k3; obtain ⟨g0, g1, g2, g3, g4, g5, g6, g7⟩ := oct_cells Z.out.k4)
      | (go_at_call 12; (with_reducible refine (F12.out _).mono ?_); rintro e w5 ⟨rfl, hb⟩; have n0 := Aside0.mk (show Ik a0 a1 a2 a3 a4 a5 d0 d1 d2 d3 d4 d5 d6 d7 y0 y1 y2 y3 y4 y5 y6 y7 w.heap.size (w.heap.size + 1) W1.heap.size W2.heap.size w w5 by first | exact Z.out.below hb | exact (Z.out.below (below_drew1 (Below.refl _ _))).below hb); clear hb Z; clear s0 s1 s2 s3 s4 s5 e0 e1 e2 e3 e4 e5 e6 e7 f0 f1 f2 f3 f4 f5 f6 f7 g0 g1 g2 g3 g4 g5 g6 g7; have Z := n0; clear n0; obtain ⟨s0, s1, s2, s3, s4, s5⟩ := sgl_cells Z.out.k1; obtain ⟨e0, e1, e2, e3, e4, e5, e6, e7⟩ := oct_cells Z.out.k2; obtain ⟨f0, f1, f2, f3, f4, f5, f6, f7⟩ := oct_cells Z.out.k3; obtain ⟨g0, g1, g2, g3, g4, g5, g6, g7⟩ := oct_cells Z.out.k4)
      | (go_at_call 13; (with_reducible refine (F13.out _).mono ?_); rintro e w5 ⟨rfl, hb⟩; have n0 := Aside0.mk (show Ik a0 a1 a2 a3 a4 a5 d0 d1 d2 d3 d4 d5 d6 d7 y0 y1 y2 y3 y4 y5 y6 y7 w.heap.size (w.heap.size + 1) W1.heap.size W2.heap.size w w5 by first | exact Z.out.below hb | exact (Z.out.below (below_drew1 (Below.refl _ _))).below hb); clear hb Z; clear s0 s1 s2 s3 s4 s5 e0 e1 e2 e3 e4 e5 e6 e7 f0 f1 f2 f3 f4 f5 f6 f7 g0 g1 g2 g3 g4 g5 g6 g7; have Z := n0; clear n0; obtain ⟨s0, s1, s2, s3, s4, s5⟩ := sgl_cells Z.out.k1; obtain ⟨e0, e1, e2, e3, e4, e5, e6, e7⟩ := oct_cells Z.out.k2; obtain ⟨f0, f1, f2, f3, f4, f5, f6, f7⟩ := oct_cells Z.out.k3; obtain ⟨g0, g1, g2, g3, g4, g5, g6, g7⟩ := oct_cells Z.out.k4)
      | (go_at_call 14; (with_reducible refine (F14.out _).mono ?_); rintro e w5 ⟨rfl, hb⟩; have n0 := Aside0.mk (show Ik a0 a1 a2 a3 a4 a5 d0 d1 d2 d3 d4 d5 d6 d7 y0 y1 y2 y3 y4 y5 y6 y7 w.heap.size (w.heap.size + 1) W1.heap.size W2.heap.size w w5 by first | exact Z.out.below hb | exact (Z.out.below (below_drew1 (Below.refl _ _))).below hb); clear hb Z; clear s0 s1 s2 s3 s4 s5 e0 e1 e2 e3 e4 e5 e6 e7 f0 f1 f2 f3 f4 f5 f6 f7 g0 g1 g2 g3 g4 g5 g6 g7; have Z := n0; clear n0; obtain ⟨s0, s1, s2, s3, s4, s5⟩ := sgl_cells Z.out.k1; obtain ⟨e0, e1, e2, e3, e4, e5, e6, e7⟩ := oct_cells Z.out.k2; obtain ⟨f0, f1, f2, f3, f4, f5, f6, f7⟩ := oct_cells Z.out.k3; obtain ⟨g0, g1, g2, g3, g4, g5, g6, g7⟩ := oct_cells Z.out.k4)
      | (go_at_call 15; (with_reducible refine (F15.out _).mono ?_); rintro e w5 ⟨rfl, hb⟩; have n0 := Aside0.mk (show Ik a0 a1 a2 a3 a4 a5 d0 d1 d2 d3 d4 d5 d6 d7 y0 y1 y2 y3 y4 y5 y6 y7 w.heap.size (w.heap.size + 1) W1.heap.size W2.heap.size w w5 by first | exact Z.out.below hb | exact (Z.out.below (below_drew1 (Below.refl _ _))).below hb); clear hb Z; clear s0 s1 s2 s3 s4 s5 e0 e1 e2 e3 e4 e5 e6 e7 f0 f1 f2 f3 f4 f5 f6 f7 g0 g1 g2 g3 g4 g5 g6 g7; have Z := n0; clear n0; obtain ⟨s0, s1, s2, s3, s4, s5⟩ := sgl_cells Z.out.k1; obtain ⟨e0, e1, e2, e3, e4, e5, e6, e7⟩ := oct_cells Z.out.k2; obtain ⟨f0, f1, f2, f3, f4, f5, f6, f7⟩ := oct_cells Z.out.k3; obtain ⟨g0, g1, g2, g3, g4, g5, g6, g7⟩ := oct_cells Z.out.k4))
  generalize W1.heap.size = b3 at Z f0 f1 f2 f3 f4 f5 f6 f7 g0 g1 g2 g3 g4 g5 g6 g7 ⊢
  generalize W2.heap.size = b4 at Z f0 f1 f2 f3 f4 f5 f6 f7 g0 g1 g2 g3 g4 g5 g6 g7 ⊢
  dsimp only [List.append]
  go_region_held3 (fun w' => w'.cell? ⟨w.heap.size, 0, none⟩ = some (.int .i64 a0) ∧ w'.cell? ⟨w.heap.size, 1, none⟩ = some (.int .i64 a1) ∧ w'.cell? ⟨w.heap.size, 2, none⟩ = some (.bool a2) ∧ w'.cell? ⟨w.heap.size, 3, none⟩ = some (.bool a3) ∧ w'.cell? ⟨w.heap.size, 4, none⟩ = some (.int .i64 a4) ∧ w'.cell? ⟨w.heap.size, 5, none⟩ = some (.int .i64 a5) ∧ w'.cell? ⟨w.heap.size + 1, 0, none⟩ = some (.int .u8 d0) ∧ w'.cell? ⟨w.heap.size + 1, 1, none⟩ = some (.int .u8 d1) ∧ w'.cell? ⟨w.heap.size + 1, 2, none⟩ = some (.int .u8 d2) ∧ w'.cell? ⟨w.heap.size + 1, 3, none⟩ = some (.int .u8 d3) ∧ w'.cell? ⟨w.heap.size + 1, 4, none⟩ = some (.int .u8 d4) ∧ w'.cell? ⟨w.heap.size + 1, 5, none⟩ = some (.int .u8 d5) ∧ w'.cell? ⟨w.heap.size + 1, 6, none⟩ = some (.int .u8 d6) ∧ w'.cell? ⟨w.heap.size + 1, 7, none⟩ = some (.int .u8 d7) ∧ w'.cell? ⟨b3, 0, none⟩ = some (.int .u8 y0) ∧ w'.cell? ⟨b3, 1, none⟩ = some (.int .u8 y1) ∧ w'.cell? ⟨b3, 2, none⟩ = some (.int .u8 y2) ∧ w'.cell? ⟨b3, 3, none⟩ = some (.int .u8 y3) ∧ w'.cell? ⟨b3, 4, none⟩ = some (.int .u8 y4) ∧ w'.cell? ⟨b3, 5, none⟩ = some (.int .u8 y5) ∧ w'.cell? ⟨b3, 6, none⟩ = some (.int .u8 y6) ∧ w'.cell? ⟨b3, 7, none⟩ = some (.int .u8 y7) ∧ w'.cell? ⟨b4, 0, none⟩ = some (.int .u8 y0) ∧ w'.cell? ⟨b4, 1, none⟩ = some (.int .u8 y1) ∧ w'.cell? ⟨b4, 2, none⟩ = some (.int .u8 y2) ∧ w'.cell? ⟨b4, 3, none⟩ = some (.int .u8 y3) ∧ w'.cell? ⟨b4, 4, none⟩ = some (.int .u8 y4) ∧ w'.cell? ⟨b4, 5, none⟩ = some (.int .u8 y5) ∧ w'.cell? ⟨b4, 6, none⟩ = some (.int .u8 y6) ∧ w'.cell? ⟨b4, 7, none⟩ = some (.int .u8 y7)) (go_keep)
    (first
      | (go_at_call 16; (with_reducible refine (live_calls _).mono ?_); rintro e w5 ⟨rfl, hb⟩; have n0 := Aside0.mk (show Ik a0 a1 a2 a3 a4 a5 d0 d1 d2 d3 d4 d5 d6 d7 y0 y1 y2 y3 y4 y5 y6 y7 w.heap.size (w.heap.size + 1) b3 b4 w w5 by first | exact Z.out.below hb | exact (Z.out.below (below_drew1 (Below.refl _ _))).below hb); clear hb Z; clear s0 s1 s2 s3 s4 s5 e0 e1 e2 e3 e4 e5 e6 e7 f0 f1 f2 f3 f4 f5 f6 f7 g0 g1 g2 g3 g4 g5 g6 g7; have Z := n0; clear n0; obtain ⟨s0, s1, s2, s3, s4, s5⟩ := sgl_cells Z.out.k1; obtain ⟨e0, e1, e2, e3, e4, e5, e6, e7⟩ := oct_cells Z.out.k2; obtain ⟨f0, f1, f2, f3, f4, f5, f6, f7⟩ := oct_cells Z.out.k3; obtain ⟨g0, g1, g2, g3, g4, g5, g6, g7⟩ := oct_cells Z.out.k4)
      | (go_at_call 17; (with_reducible refine (F17.out _).mono ?_); rintro e w5 ⟨rfl, hb⟩; have n0 := Aside0.mk (show Ik a0 a1 a2 a3 a4 a5 d0 d1 d2 d3 d4 d5 d6 d7 y0 y1 y2 y3 y4 y5 y6 y7 w.heap.size (w.heap.size + 1) b3 b4 w w5 by first | exact Z.out.below hb | exact (Z.out.below (below_drew1 (Below.refl _ _))).below hb); clear hb Z; clear s0 s1 s2 s3 s4 s5 e0 e1 e2 e3 e4 e5 e6 e7 f0 f1 f2 f3 f4 f5 f6 f7 g0 g1 g2 g3 g4 g5 g6 g7; have Z := n0; clear n0; obtain ⟨s0, s1, s2, s3, s4, s5⟩ := sgl_cells Z.out.k1; obtain ⟨e0, e1, e2, e3, e4, e5, e6, e7⟩ := oct_cells Z.out.k2; obtain ⟨f0, f1, f2, f3, f4, f5, f6, f7⟩ := oct_cells Z.out.k3; obtain ⟨g0, g1, g2, g3, g4, g5, g6, g7⟩ := oct_cells Z.out.k4)
      | (go_at_call 18; (with_reducible refine (F18.out _).mono ?_); rintro e w5 ⟨rfl, hb⟩; have n0 := Aside0.mk (show Ik a0 a1 a2 a3 a4 a5 d0 d1 d2 d3 d4 d5 d6 d7 y0 y1 y2 y3 y4 y5 y6 y7 w.heap.size (w.heap.size + 1) b3 b4 w w5 by first | exact Z.out.below hb | exact (Z.out.below (below_drew1 (Below.refl _ _))).below hb); clear hb Z; clear s0 s1 s2 s3 s4 s5 e0 e1 e2 e3 e4 e5 e6 e7 f0 f1 f2 f3 f4 f5 f6 f7 g0 g1 g2 g3 g4 g5 g6 g7; have Z := n0; clear n0; obtain ⟨s0, s1, s2, s3, s4, s5⟩ := sgl_cells Z.out.k1; obtain ⟨e0, e1, e2, e3, e4, e5, e6, e7⟩ := oct_cells Z.out.k2; obtain ⟨f0, f1, f2, f3, f4, f5, f6, f7⟩ := oct_cells Z.out.k3; obtain ⟨g0, g1, g2, g3, g4, g5, g6, g7⟩ := oct_cells Z.out.k4)
      | (go_at_call 20; (with_reducible refine (F20.out _).mono ?_); rintro e w5 ⟨v20, rfl, hR, _, hb⟩; obtain ⟨A1, c1, ev, hl1, hC0⟩ := Kd.R_reads hR; subst ev; have HC1 := Aside0.mk hC0; clear hR hC0; have n0 := Aside0.mk (show Ik a0 a1 a2 a3 a4 a5 d0 d1 d2 d3 d4 d5 d6 d7 y0 y1 y2 y3 y4 y5 y6 y7 w.heap.size (w.heap.size + 1) b3 b4 w w5 by first | exact Z.out.below hb | exact (Z.out.below (below_drew1 (Below.refl _ _))).below hb); (try (have n1 := Aside0.mk (show (Kd.int .i64).C w5 A2 l.length l by first | exact Kd.C_below HC2.out hb | exact Kd.C_below (Kd.C_below HC2.out (below_drew1 (Below.refl _ _))) hb); clear HC2; have HC2 := n1; clear n1)); clear hb Z; clear s0 s1 s2 s3 s4 s5 e0 e1 e2 e3 e4 e5 e6 e7 f0 f1 f2 f3 f4 f5 f6 f7 g0 g1 g2 g3 g4 g5 g6 g7; have Z := n0; clear n0; obtain ⟨s0, s1, s2, s3, s4, s5⟩ := sgl_cells Z.out.k1; obtain ⟨e0, e1, e2, e3, e4, e5, e6, e7⟩ := oct_cells Z.out.k2; obtain ⟨f0, f1, f2, f3, f4, f5, f6, f7⟩ := oct_cells Z.out.k3; obtain ⟨g0, g1, g2, g3, g4, g5, g6, g7⟩ := oct_cells Z.out.k4)
      | (go_at_call 21; (with_reducible refine (F21.out _).mono ?_); rintro e w5 ⟨v21, rfl, hR, hb⟩; obtain ⟨A2, c2, ev, hl2, hC0⟩ := Kd.R_reads hR; subst ev; have HC2 := Aside0.mk hC0; clear hR hC0; have n0 := Aside0.mk (show Ik a0 a1 a2 a3 a4 a5 d0 d1 d2 d3 d4 d5 d6 d7 y0 y1 y2 y3 y4 y5 y6 y7 w.heap.size (w.heap.size + 1) b3 b4 w w5 by first | exact Z.out.below hb | exact (Z.out.below (below_drew1 (Below.refl _ _))).below hb); (try (have n1 := Aside0.mk (show (Kd.int .i64).C w5 A1 l.length l by first | exact Kd.C_below HC1.out hb | exact Kd.C_below (Kd.C_below HC1.out (below_drew1 (Below.refl _ _))) hb); clear HC1; have HC1 := n1; clear n1)); clear hb Z; clear s0 s1 s2 s3 s4 s5 e0 e1 e2 e3 e4 e5 e6 e7 f0 f1 f2 f3 f4 f5 f6 f7 g0 g1 g2 g3 g4 g5 g6 g7; have Z := n0; clear n0; obtain ⟨s0, s1, s2, s3, s4, s5⟩ := sgl_cells Z.out.k1; obtain ⟨e0, e1, e2, e3, e4, e5, e6, e7⟩ := oct_cells Z.out.k2; obtain ⟨f0, f1, f2, f3, f4, f5, f6, f7⟩ := oct_cells Z.out.k3; obtain ⟨g0, g1, g2, g3, g4, g5, g6, g7⟩ := oct_cells Z.out.k4)
      | (go_at_call 19; (with_reducible refine (Same_calls PL.out hl1 hl2 (by first | exact HC1.out | exact Kd.C_below HC1.out (below_drew1 (Below.refl _ _))) (by first | exact HC2.out | exact Kd.C_below HC2.out (below_drew1 (Below.refl _ _)))).mono ?_); rintro e w5 ⟨rfl, hb⟩; have n0 := Aside0.mk (show Ik a0 a1 a2 a3 a4 a5 d0 d1 d2 d3 d4 d5 d6 d7 y0 y1 y2 y3 y4 y5 y6 y7 w.heap.size (w.heap.size + 1) b3 b4 w w5 by first | exact Z.out.below hb | exact (Z.out.below (below_drew1 (Below.refl _ _))).below hb); clear hb Z; clear s0 s1 s2 s3 s4 s5 e0 e1 e2 e3 e4 e5 e6 e7 f0 f1 f2 f3 f4 f5 f6 f7 g0 g1 g2 g3 g4 g5 g6 g7; have Z := n0; clear n0; obtain ⟨s0, s1, s2, s3, s4, s5⟩ := sgl_cells Z.out.k1; obtain ⟨e0, e1, e2, e3, e4, e5, e6, e7⟩ := oct_cells Z.out.k2; obtain ⟨f0, f1, f2, f3, f4, f5, f6, f7⟩ := oct_cells Z.out.k3; obtain ⟨g0, g1, g2, g3, g4, g5, g6, g7⟩ := oct_cells Z.out.k4)
      | (go_at_call 22; (with_reducible refine (F22.out _).mono ?_); rintro e w5 ⟨rfl, hb⟩; have n0 := Aside0.mk (show Ik a0 a1 a2 a3 a4 a5 d0 d1 d2 d3 d4 d5 d6 d7 y0 y1 y2 y3 y4 y5 y6 y7 w.heap.size (w.heap.size + 1) b3 b4 w w5 by first | exact Z.out.below hb | exact (Z.out.below (below_drew1 (Below.refl _ _))).below hb); clear hb Z; clear s0 s1 s2 s3 s4 s5 e0 e1 e2 e3 e4 e5 e6 e7 f0 f1 f2 f3 f4 f5 f6 f7 g0 g1 g2 g3 g4 g5 g6 g7; have Z := n0; clear n0; obtain ⟨s0, s1, s2, s3, s4, s5⟩ := sgl_cells Z.out.k1; obtain ⟨e0, e1, e2, e3, e4, e5, e6, e7⟩ := oct_cells Z.out.k2; obtain ⟨f0, f1, f2, f3, f4, f5, f6, f7⟩ := oct_cells Z.out.k3; obtain ⟨g0, g1, g2, g3, g4, g5, g6, g7⟩ := oct_cells Z.out.k4)
      | (go_at_call 23; (with_reducible refine (F23.out _).mono ?_); rintro e w5 ⟨rfl, hb⟩; have n0 := Aside0.mk (show Ik a0 a1 a2 a3 a4 a5 d0 d1 d2 d3 d4 d5 d6 d7 y0 y1 y2 y3 y4 y5 y6 y7 w.heap.size (w.heap.size + 1) b3 b4 w w5 by first | exact Z.out.below hb | exact (Z.out.below (below_drew1 (Below.refl _ _))).below hb); clear hb Z; clear s0 s1 s2 s3 s4 s5 e0 e1 e2 e3 e4 e5 e6 e7 f0 f1 f2 f3 f4 f5 f6 f7 g0 g1 g2 g3 g4 g5 g6 g7; have Z := n0; clear n0; obtain ⟨s0, s1, s2, s3, s4, s5⟩ := sgl_cells Z.out.k1; obtain ⟨e0, e1, e2, e3, e4, e5, e6, e7⟩ := oct_cells Z.out.k2; obtain ⟨f0, f1, f2, f3, f4, f5, f6, f7⟩ := oct_cells Z.out.k3; obtain ⟨g0, g1, g2, g3, g4, g5, g6, g7⟩ := oct_cells Z.out.k4))
  go_wp2
  go_ret
  exact ⟨rfl, by first | exact Z.out.B | exact (Z.out.below (below_drew1 (Below.refl _ _))).B⟩
theorem SignalIs_walk (a0_0 a0_1 : Int) (a0_2 a0_3 : Bool) (a0_4 a0_5 : Int) (a1_0 a1_1 a1_2 a1_3 a1_4 a1_5 a1_6 a1_7 a2 : Int) (w : World) (w0_0 : (Lit.int .i64 a0_0).wf = true) (w0_1 : (Lit.int .i64 a0_1).wf = true) (w0_4 : (Lit.int .i64 a0_4).wf = true) (w0_5 : (Lit.int .i64 a0_5).wf = true) (w1_0 : (Lit.int .u8 a1_0).wf = true) (w1_1 : (Lit.int .u8 a1_1).wf = true) (w1_2 : (Lit.int .u8 a1_2).wf = true) (w1_3 : (Lit.int .u8 a1_3).wf = true) (w1_4 : (Lit.int .u8 a1_4).wf = true) (w1_5 : (Lit.int .u8 a1_5).wf = true) (w1_6 : (Lit.int .u8 a1_6).wf = true) (w1_7 : (Lit.int .u8 a1_7).wf = true) (w2 : (Lit.int .i64 a2).wf = true) :
    Calls Try.prog 3 #[.agg #[.int .i64 a0_0, .int .i64 a0_1, .bool a0_2, .bool a0_3, .int .i64 a0_4, .int .i64 a0_5], .agg #[.int .u8 a1_0, .int .u8 a1_1, .int .u8 a1_2, .int .u8 a1_3, .int .u8 a1_4, .int .u8 a1_5, .int .u8 a1_6, .int .u8 a1_7], .int .i64 a2] w fun e w' => e = .returned (.bool true) ∧ Below w.heap.size w w' := by
  have hB := byts_of w1_0 w1_1 w1_2 w1_3 w1_4 w1_5 w1_6 w1_7
  simp only [Lit.wf, Bool.and_eq_true, decide_eq_true_eq] at w0_4 w0_5 w2
  exact SignalIs_core a0_0 a0_1 a0_2 a0_3 a0_4 a0_5 a1_0 a1_1 a1_2 a1_3 a1_4 a1_5 a1_6 a1_7 a2 w hB w2 w0_4 w0_5
end Go.Proofs.Ytepeihlhokpjjaa.P
