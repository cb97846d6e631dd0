/- What was put is got, and nothing else changes: the walk. Condition: the numbers are of their kinds. -/
import Derived.Test.YtepeihlhokpjjaaSigLive
import Derived.Test.YtepeihlhokpjjaaSigRMeet
namespace Go.Proofs.Ytepeihlhokpjjaa.P
open Go.RowKit Go.Proofs.YtepeihlhokpjjaaW.PrintWords Go.Proofs.YtepeihlhokpjjaaW.PrintLast Go.Proofs.YtepeihlhokpjjaaW.PrintMore
set_option linter.unusedVariables false
set_option linter.unusedSimpArgs false
theorem eqZ (w : World) : (binOp .eql 24 (.agg (oct 0 0 0 0 0 0 0 0)) (.agg (oct 0 0 0 0 0 0 0 0))).run Try.prog w = .ok (.bool true) w := by kernel_rfl
theorem back_facts {d : List Int} (h : Byts d) (s t : Sg) (n : Int) : (putV d s n).1.length = 8 ∧ ((putV d s n).2 ≠ 0 → (putV d s n).1 = zeros8) ∧ ((putV d s n).2 = 0 → getV (putV d s n).1 s = n ∧ (rmeetV s t = false → getV (putV d s n).1 t = getV d t)) := by
  refine ⟨putV_len d s n h.1, ?_, ?_⟩
  · intro he
    by_cases hb : badS s = true
    · have e : putV d s n = (zeros8, 10) := if_pos hb
      rw [e]
    · by_cases hf : fitsV s n = true
      · have e : putV d s n = (putL n (placesV s) 0 d, 0) := (if_neg hb).trans (if_pos hf)
        rw [e] at he
        exact absurd rfl he
      · have e : putV d s n = (zeros8, 1) := (if_neg hb).trans (if_neg hf)
        rw [e]
  · intro he
    have hf : fitsV s n = true := by
      by_cases hb : badS s = true
      · have e : putV d s n = (zeros8, 10) := if_pos hb
        rw [e] at he
        cases he
      · by_cases hf : fitsV s n = true
        · exact hf
        · have e : putV d s n = (zeros8, 1) := (if_neg hb).trans (if_neg hf)
          rw [e] at he
          cases he
    exact ⟨put_get h hf, fun hm => put_other h hf (rmeet_no hm)⟩
structure Bk (a0 : Int) (a1 : Int) (a2 : Bool) (a3 : Bool) (a4 : Int) (a5 : Int) (a6 : Int) (a7 : Int) (a8 : Bool) (a9 : Bool) (a10 : Int) (a11 : Int) (d0 d1 d2 d3 d4 d5 d6 d7 y0 y1 y2 y3 y4 y5 y6 y7 : Int) (b1 b2 b3 : Nat) (w W : World) : Prop where
  k1 : W.heap[b1]? = some (.cells #[.int .i64 a0, .int .i64 a1, .bool a2, .bool a3, .int .i64 a4, .int .i64 a5, .int .i64 a6, .int .i64 a7, .bool a8, .bool a9, .int .i64 a10, .int .i64 a11] 50 (0, 0))
  k2 : W.heap[b2]? = some (.cells (oct d0 d1 d2 d3 d4 d5 d6 d7) 24 (0, 0))
  k3 : W.heap[b3]? = some (.cells (oct y0 y1 y2 y3 y4 y5 y6 y7) 24 (0, 0))
  B : Below w.heap.size w W
theorem Bk.below {a0 : Int} {a1 : Int} {a2 : Bool} {a3 : Bool} {a4 : Int} {a5 : Int} {a6 : Int} {a7 : Int} {a8 : Bool} {a9 : Bool} {a10 : Int} {a11 : Int} {d0 d1 d2 d3 d4 d5 d6 d7 y0 y1 y2 y3 y4 y5 y6 y7 : Int} {b1 b2 b3 : Nat} {w W W' : World} (h : Bk a0 a1 a2 a3 a4 a5 a6 a7 a8 a9 a10 a11 d0 d1 d2 d3 d4 d5 d6 d7 y0 y1 y2 y3 y4 y5 y6 y7 b1 b2 b3 w W) (hb : Below W.heap.size W W') : Bk a0 a1 a2 a3 a4 a5 a6 a7 a8 a9 a10 a11 d0 d1 d2 d3 d4 d5 d6 d7 y0 y1 y2 y3 y4 y5 y6 y7 b1 b2 b3 w W' := ⟨blk_below h.k1 hb, blk_below h.k2 hb, blk_below h.k3 hb, below_step h.B hb⟩
theorem cells12 {a0 : Int} {a1 : Int} {a2 : Bool} {a3 : Bool} {a4 : Int} {a5 : Int} {a6 : Int} {a7 : Int} {a8 : Bool} {a9 : Bool} {a10 : Int} {a11 : Int} {w : World} {g : Nat} (h : w.heap[g]? = some (.cells #[.int .i64 a0, .int .i64 a1, .bool a2, .bool a3, .int .i64 a4, .int .i64 a5, .int .i64 a6, .int .i64 a7, .bool a8, .bool a9, .int .i64 a10, .int .i64 a11] 50 (0, 0))) : w.cell? ⟨g, 0, none⟩ = some (.int .i64 a0) ∧ w.cell? ⟨g, 1, none⟩ = some (.int .i64 a1) ∧ w.cell? ⟨g, 2, none⟩ = some (.bool a2) ∧ w.cell? ⟨g, 3, none⟩ = some (.bool a3) ∧ w.cell? ⟨g, 4, none⟩ = some (.int .i64 a4) ∧ w.cell? ⟨g, 5, none⟩ = some (.int .i64 a5) ∧ w.cell? ⟨g, 6, none⟩ = some (.int .i64 a6) ∧ w.cell? ⟨g, 7, none⟩ = some (.int .i64 a7) ∧ w.cell? ⟨g, 8, none⟩ = some (.bool a8) ∧ w.cell? ⟨g, 9, none⟩ = some (.bool a9) ∧ w.cell? ⟨g, 10, none⟩ = some (.int .i64 a10) ∧ w.cell? ⟨g, 11, none⟩ = some (.int .i64 a11) :=
  ⟨(blk_cell h 0).trans rfl, (blk_cell h 1).trans rfl, (blk_cell h 2).trans rfl, (blk_cell h 3).trans rfl, (blk_cell h 4).trans rfl, (blk_cell h 5).trans rfl, (blk_cell h 6).trans rfl, (blk_cell h 7).trans rfl, (blk_cell h 8).trans rfl, (blk_cell h 9).trans rfl, (blk_cell h 10).trans rfl, (blk_cell h 11).trans rfl⟩
set_option maxHeartbeats 40000000 in
set_option maxRecDepth 100000 in
theorem SignalBack_core (a0 : Int) (a1 : Int) (a2 : Bool) (a3 : Bool) (a4 : Int) (a5 : Int) (a6 : Int) (a7 : Int) (a8 : Bool) (a9 : Bool) (a10 : Int) (a11 : Int) (d0 d1 d2 d3 d4 d5 d6 d7 n : Int) (w : World) (hd : Byts [d0, d1, d2, d3, d4, d5, d6, d7]) :
    Calls Try.prog 5 #[.agg #[.int .i64 a0, .int .i64 a1, .bool a2, .bool a3, .int .i64 a4, .int .i64 a5, .int .i64 a6, .int .i64 a7, .bool a8, .bool a9, .int .i64 a10, .int .i64 a11], .agg (oct d0 d1 d2 d3 d4 d5 d6 d7), .int .i64 n] w fun e w' => e = .returned (.bool true) ∧ Below w.heap.size w w' := by
  have hu23 := Try.underlying23
  have hu24 := Try.underlying24
  have hu50 := Try.underlying50
  have hZ := eqZ
  have F := back_facts hd ⟨a0, a1, a2, a3, a4, a5⟩ ⟨a6, a7, a8, a9, a10, a11⟩ n
  have PT0 := fun w => Put_walk [d0, d1, d2, d3, d4, d5, d6, d7] rfl ⟨a0, a1, a2, a3, a4, a5⟩ n w
  have GA00 := fun w => Get_walk (putV [d0, d1, d2, d3, d4, d5, d6, d7] ⟨a0, a1, a2, a3, a4, a5⟩ n).1 F.1 ⟨a0, a1, a2, a3, a4, a5⟩ w
  have GA10 := fun w => Get_walk (putV [d0, d1, d2, d3, d4, d5, d6, d7] ⟨a0, a1, a2, a3, a4, a5⟩ n).1 F.1 ⟨a6, a7, a8, a9, a10, a11⟩ w
  have GD1 : Aside0 (∀ w, Calls Try.prog 22 #[.agg (oct d0 d1 d2 d3 d4 d5 d6 d7), .agg #[.int .i64 a6, .int .i64 a7, .bool a8, .bool a9, .int .i64 a10, .int .i64 a11]] w fun e w' => e = .returned (.int .i64 (getV [d0, d1, d2, d3, d4, d5, d6, d7] ⟨a6, a7, a8, a9, a10, a11⟩)) ∧ Below w.heap.size w w') := ⟨fun w => Get_walk [d0, d1, d2, d3, d4, d5, d6, d7] rfl ⟨a6, a7, a8, a9, a10, a11⟩ w⟩
  have RM : Aside0 (∀ w, Calls Try.prog 31 #[.agg #[.int .i64 a0, .int .i64 a1, .bool a2, .bool a3, .int .i64 a4, .int .i64 a5], .agg #[.int .i64 a6, .int .i64 a7, .bool a8, .bool a9, .int .i64 a10, .int .i64 a11]] w fun e w' => e = .returned (.bool (rmeetV ⟨a0, a1, a2, a3, a4, a5⟩ ⟨a6, a7, a8, a9, a10, a11⟩)) ∧ Below w.heap.size w w') := ⟨fun w => RMeet_walk ⟨a0, a1, a2, a3, a4, a5⟩ ⟨a6, a7, a8, a9, a10, a11⟩ w⟩
  generalize putV [d0, d1, d2, d3, d4, d5, d6, d7] ⟨a0, a1, a2, a3, a4, a5⟩ n = pv at F PT0 GA00 GA10
  obtain ⟨y, er⟩ := pv
  dsimp only at F PT0 GA00 GA10
  obtain ⟨y0, y1, y2, y3, y4, y5, y6, y7, rfl⟩ := eight F.1
  generalize getV [y0, y1, y2, y3, y4, y5, y6, y7] ⟨a0, a1, a2, a3, a4, a5⟩ = g0 at GA00 F
  generalize getV [y0, y1, y2, y3, y4, y5, y6, y7] ⟨a6, a7, a8, a9, a10, a11⟩ = g1 at GA10 F
  generalize getV [d0, d1, d2, d3, d4, d5, d6, d7] ⟨a6, a7, a8, a9, a10, a11⟩ = g2 at GD1 F
  generalize rmeetV ⟨a0, a1, a2, a3, a4, a5⟩ ⟨a6, a7, a8, a9, a10, a11⟩ = m at RM F
  have PT : Aside0 (∀ w, Calls Try.prog 8 #[.agg (oct d0 d1 d2 d3 d4 d5 d6 d7), .agg #[.int .i64 a0, .int .i64 a1, .bool a2, .bool a3, .int .i64 a4, .int .i64 a5], .int .i64 n] w fun e w' => e = .returned (.tuple #[.agg (oct y0 y1 y2 y3 y4 y5 y6 y7), .int .i64 er]) ∧ Below w.heap.size w w') := ⟨PT0⟩
  have GA0 : Aside0 (∀ w, Calls Try.prog 22 #[.agg (oct y0 y1 y2 y3 y4 y5 y6 y7), .agg #[.int .i64 a0, .int .i64 a1, .bool a2, .bool a3, .int .i64 a4, .int .i64 a5]] w fun e w' => e = .returned (.int .i64 g0) ∧ Below w.heap.size w w') := ⟨GA00⟩
  have GA1 : Aside0 (∀ w, Calls Try.prog 22 #[.agg (oct y0 y1 y2 y3 y4 y5 y6 y7), .agg #[.int .i64 a6, .int .i64 a7, .bool a8, .bool a9, .int .i64 a10, .int .i64 a11]] w fun e w' => e = .returned (.int .i64 g1) ∧ Below w.heap.size w w') := ⟨GA10⟩
  have FF := Aside0.mk (And.intro F.2.1 F.2.2)
  clear PT0 GA00 GA10 F hd
  have K1 := Aside0.mk (blk_below (blk_new w (.cells #[.int .i64 a0, .int .i64 a1, .bool a2, .bool a3, .int .i64 a4, .int .i64 a5, .int .i64 a6, .int .i64 a7, .bool a8, .bool a9, .int .i64 a10, .int .i64 a11] 50)) (below_alloc (Below.refl _ _) (.cells (oct d0 d1 d2 d3 d4 d5 d6 d7) 24)))
  have K2 := Aside0.mk (blk_new2 w (.cells #[.int .i64 a0, .int .i64 a1, .bool a2, .bool a3, .int .i64 a4, .int .i64 a5, .int .i64 a6, .int .i64 a7, .bool a8, .bool a9, .int .i64 a10, .int .i64 a11] 50) (.cells (oct d0 d1 d2 d3 d4 d5 d6 d7) 24))
  have B0 := Aside0.mk (below_alloc (below_alloc (Below.refl w.heap.size w) (.cells #[.int .i64 a0, .int .i64 a1, .bool a2, .bool a3, .int .i64 a4, .int .i64 a5, .int .i64 a6, .int .i64 a7, .bool a8, .bool a9, .int .i64 a10, .int .i64 a11] 50)) (.cells (oct d0 d1 d2 d3 d4 d5 d6 d7) 24))
  obtain ⟨s0, s1, s2, s3, s4, s5, s6, s7, s8, s9, s10, s11⟩ := cells12 K1.out
  obtain ⟨e0, e1, e2, e3, e4, e5, e6, e7⟩ := oct_cells K2.out
  go_enter Try.func5, Try.ntmps5
  go_wp2_with fail
  (with_reducible refine (PT.out _).mono ?_)
  rintro e W1 ⟨rfl, hb⟩
  have Z1 : Bk a0 a1 a2 a3 a4 a5 a6 a7 a8 a9 a10 a11 d0 d1 d2 d3 d4 d5 d6 d7 y0 y1 y2 y3 y4 y5 y6 y7 w.heap.size (w.heap.size + 1) W1.heap.size w (W1.alloc (.cells (oct y0 y1 y2 y3 y4 y5 y6 y7) 24)) := ⟨blk_below (blk_below K1.out hb) (below_alloc (Below.refl _ _) _), blk_below (blk_below K2.out hb) (below_alloc (Below.refl _ _) _), blk_new _ _, below_alloc (below_step B0.out hb) _⟩
  have Z := Aside0.mk Z1
  clear Z1 K1 K2 B0 hb s0 s1 s2 s3 s4 s5 s6 s7 s8 s9 s10 s11 e0 e1 e2 e3 e4 e5 e6 e7
  obtain ⟨s0, s1, s2, s3, s4, s5, s6, s7, s8, s9, s10, s11⟩ := cells12 Z.out.k1
  obtain ⟨e0, e1, e2, e3, e4, e5, e6, e7⟩ := oct_cells Z.out.k2
  obtain ⟨f0, f1, f2, f3, f4, f5, f6, f7⟩ := oct_cells Z.out.k3
  by_cases he : er = 0
  · have u1 : (er != 0) = false := by simpa using he
    obtain ⟨rfl, hm⟩ := FF.out.2 he
    have q0 : (g0 != g0) = false := by simp
    clear he FF
    go_wp2_with (first | (go_at_call 22; (with_reducible refine (GA0.out _).mono ?_); rintro e w5 ⟨rfl, hb⟩; have n0 := Aside0.mk (show Bk a0 a1 a2 a3 a4 a5 a6 a7 a8 a9 a10 a11 d0 d1 d2 d3 d4 d5 d6 d7 y0 y1 y2 y3 y4 y5 y6 y7 w.heap.size (w.heap.size + 1) W1.heap.size w w5 by first | exact Z.out.below hb | exact (Z.out.below (below_drew1 (Below.refl _ _))).below hb); clear hb Z; clear s0 s1 s2 s3 s4 s5 s6 s7 s8 s9 s10 s11 e0 e1 e2 e3 e4 e5 e6 e7 f0 f1 f2 f3 f4 f5 f6 f7; have Z := n0; clear n0; obtain ⟨s0, s1, s2, s3, s4, s5, s6, s7, s8, s9, s10, s11⟩ := cells12 Z.out.k1; obtain ⟨e0, e1, e2, e3, e4, e5, e6, e7⟩ := oct_cells Z.out.k2; obtain ⟨f0, f1, f2, f3, f4, f5, f6, f7⟩ := oct_cells Z.out.k3))
    generalize W1.heap.size = b3 at Z s0 s1 s2 s3 s4 s5 s6 s7 s8 s9 s10 s11 e0 e1 e2 e3 e4 e5 e6 e7 f0 f1 f2 f3 f4 f5 f6 f7 ⊢
    cases m
    · obtain rfl := hm rfl
      have q1 : (g1 == g1) = true := by simp
      go_region_held3 (fun w' => w'.cell? ⟨w.heap.size, 0, none⟩ = some (.int .i64 a0) ∧ w'.cell? ⟨w.heap.size, 1, none⟩ = some (.int .i64 a1) ∧ w'.cell? ⟨w.heap.size, 2, none⟩ = some (.bool a2) ∧ w'.cell? ⟨w.heap.size, 3, none⟩ = some (.bool a3) ∧ w'.cell? ⟨w.heap.size, 4, none⟩ = some (.int .i64 a4) ∧ w'.cell? ⟨w.heap.size, 5, none⟩ = some (.int .i64 a5) ∧ w'.cell? ⟨w.heap.size, 6, none⟩ = some (.int .i64 a6) ∧ w'.cell? ⟨w.heap.size, 7, none⟩ = some (.int .i64 a7) ∧ w'.cell? ⟨w.heap.size, 8, none⟩ = some (.bool a8) ∧ w'.cell? ⟨w.heap.size, 9, none⟩ = some (.bool a9) ∧ w'.cell? ⟨w.heap.size, 10, none⟩ = some (.int .i64 a10) ∧ w'.cell? ⟨w.heap.size, 11, none⟩ = some (.int .i64 a11) ∧ w'.cell? ⟨w.heap.size + 1, 0, none⟩ = some (.int .u8 d0) ∧ w'.cell? ⟨w.heap.size + 1, 1, none⟩ = some (.int .u8 d1) ∧ w'.cell? ⟨w.heap.size + 1, 2, none⟩ = some (.int .u8 d2) ∧ w'.cell? ⟨w.heap.size + 1, 3, none⟩ = some (.int .u8 d3) ∧ w'.cell? ⟨w.heap.size + 1, 4, none⟩ = some (.int .u8 d4) ∧ w'.cell? ⟨w.heap.size + 1, 5, none⟩ = some (.int .u8 d5) ∧ w'.cell? ⟨w.heap.size + 1, 6, none⟩ = some (.int .u8 d6) ∧ w'.cell? ⟨w.heap.size + 1, 7, none⟩ = some (.int .u8 d7) ∧ w'.cell? ⟨b3, 0, none⟩ = some (.int .u8 y0) ∧ w'.cell? ⟨b3, 1, none⟩ = some (.int .u8 y1) ∧ w'.cell? ⟨b3, 2, none⟩ = some (.int .u8 y2) ∧ w'.cell? ⟨b3, 3, none⟩ = some (.int .u8 y3) ∧ w'.cell? ⟨b3, 4, none⟩ = some (.int .u8 y4) ∧ w'.cell? ⟨b3, 5, none⟩ = some (.int .u8 y5) ∧ w'.cell? ⟨b3, 6, none⟩ = some (.int .u8 y6) ∧ w'.cell? ⟨b3, 7, none⟩ = some (.int .u8 y7)) (go_keep)
        (first
          | (go_at_call 16; (with_reducible refine (live_calls _).mono ?_); rintro e w5 ⟨rfl, hb⟩; have n0 := Aside0.mk (show Bk a0 a1 a2 a3 a4 a5 a6 a7 a8 a9 a10 a11 d0 d1 d2 d3 d4 d5 d6 d7 y0 y1 y2 y3 y4 y5 y6 y7 w.heap.size (w.heap.size + 1) b3 w w5 by first | exact Z.out.below hb | exact (Z.out.below (below_drew1 (Below.refl _ _))).below hb); clear hb Z; clear s0 s1 s2 s3 s4 s5 s6 s7 s8 s9 s10 s11 e0 e1 e2 e3 e4 e5 e6 e7 f0 f1 f2 f3 f4 f5 f6 f7; have Z := n0; clear n0; obtain ⟨s0, s1, s2, s3, s4, s5, s6, s7, s8, s9, s10, s11⟩ := cells12 Z.out.k1; obtain ⟨e0, e1, e2, e3, e4, e5, e6, e7⟩ := oct_cells Z.out.k2; obtain ⟨f0, f1, f2, f3, f4, f5, f6, f7⟩ := oct_cells Z.out.k3)
          | (go_at_call 31; (with_reducible refine (RM.out _).mono ?_); rintro e w5 ⟨rfl, hb⟩; have n0 := Aside0.mk (show Bk a0 a1 a2 a3 a4 a5 a6 a7 a8 a9 a10 a11 d0 d1 d2 d3 d4 d5 d6 d7 y0 y1 y2 y3 y4 y5 y6 y7 w.heap.size (w.heap.size + 1) b3 w w5 by first | exact Z.out.below hb | exact (Z.out.below (below_drew1 (Below.refl _ _))).below hb); clear hb Z; clear s0 s1 s2 s3 s4 s5 s6 s7 s8 s9 s10 s11 e0 e1 e2 e3 e4 e5 e6 e7 f0 f1 f2 f3 f4 f5 f6 f7; have Z := n0; clear n0; obtain ⟨s0, s1, s2, s3, s4, s5, s6, s7, s8, s9, s10, s11⟩ := cells12 Z.out.k1; obtain ⟨e0, e1, e2, e3, e4, e5, e6, e7⟩ := oct_cells Z.out.k2; obtain ⟨f0, f1, f2, f3, f4, f5, f6, f7⟩ := oct_cells Z.out.k3)
          | (go_at_call 22; (with_reducible refine (GA1.out _).mono ?_); rintro e w5 ⟨rfl, hb⟩; have n0 := Aside0.mk (show Bk a0 a1 a2 a3 a4 a5 a6 a7 a8 a9 a10 a11 d0 d1 d2 d3 d4 d5 d6 d7 y0 y1 y2 y3 y4 y5 y6 y7 w.heap.size (w.heap.size + 1) b3 w w5 by first | exact Z.out.below hb | exact (Z.out.below (below_drew1 (Below.refl _ _))).below hb); clear hb Z; clear s0 s1 s2 s3 s4 s5 s6 s7 s8 s9 s10 s11 e0 e1 e2 e3 e4 e5 e6 e7 f0 f1 f2 f3 f4 f5 f6 f7; have Z := n0; clear n0; obtain ⟨s0, s1, s2, s3, s4, s5, s6, s7, s8, s9, s10, s11⟩ := cells12 Z.out.k1; obtain ⟨e0, e1, e2, e3, e4, e5, e6, e7⟩ := oct_cells Z.out.k2; obtain ⟨f0, f1, f2, f3, f4, f5, f6, f7⟩ := oct_cells Z.out.k3)
          | (go_at_call 22; (with_reducible refine (GD1.out _).mono ?_); rintro e w5 ⟨rfl, hb⟩; have n0 := Aside0.mk (show Bk a0 a1 a2 a3 a4 a5 a6 a7 a8 a9 a10 a11 d0 d1 d2 d3 d4 d5 d6 d7 y0 y1 y2 y3 y4 y5 y6 y7 w.heap.size (w.heap.size + 1) b3 w w5 by first | exact Z.out.below hb | exact (Z.out.below (below_drew1 (Below.refl _ _))).below hb); clear hb Z; clear s0 s1 s2 s3 s4 s5 s6 s7 s8 s9 s10 s11 e0 e1 e2 e3 e4 e5 e6 e7 f0 f1 f2 f3 f4 f5 f6 f7; have Z := n0; clear n0; obtain ⟨s0, s1, s2, s3, s4, s5, s6, s7, s8, s9, s10, s11⟩ := cells12 Z.out.k1; obtain ⟨e0, e1, e2, e3, e4, e5, e6, e7⟩ := oct_cells Z.out.k2; obtain ⟨f0, f1, f2, f3, f4, f5, f6, f7⟩ := oct_cells Z.out.k3))
      go_wp2
      go_ret
      exact ⟨rfl, by first | exact Z.out.B | exact (Z.out.below (below_drew1 (Below.refl _ _))).B⟩
    · clear hm
      refine wp_region_held_drew (S := (fun w' : World => w'.cell? ⟨w.heap.size, 0, none⟩ = some (.int .i64 a0) ∧ w'.cell? ⟨w.heap.size, 1, none⟩ = some (.int .i64 a1) ∧ w'.cell? ⟨w.heap.size, 2, none⟩ = some (.bool a2) ∧ w'.cell? ⟨w.heap.size, 3, none⟩ = some (.bool a3) ∧ w'.cell? ⟨w.heap.size, 4, none⟩ = some (.int .i64 a4) ∧ w'.cell? ⟨w.heap.size, 5, none⟩ = some (.int .i64 a5) ∧ w'.cell? ⟨w.heap.size, 6, none⟩ = some (.int .i64 a6) ∧ w'.cell? ⟨w.heap.size, 7, none⟩ = some (.int .i64 a7) ∧ w'.cell? ⟨w.heap.size, 8, none⟩ = some (.bool a8) ∧ w'.cell? ⟨w.heap.size, 9, none⟩ = some (.bool a9) ∧ w'.cell? ⟨w.heap.size, 10, none⟩ = some (.int .i64 a10) ∧ w'.cell? ⟨w.heap.size, 11, none⟩ = some (.int .i64 a11))) (by kernel_rfl) ⟨s0, s1, s2, s3, s4, s5, s6, s7, s8, s9, s10, s11⟩ (fun hS0 => ?_)
      refine wpAnyH_ready (rs := [0]) (by kernel_rfl) (by simp) ?_
      refine AllReadyH.cons (o := ⟨some 31, _, _, _, _, _⟩) rfl (fun K hK => ?_) AllReadyH.nil
      go_simp
      go_at_call 16
      (with_reducible refine (live_calls _).mono ?_); rintro e w5 ⟨rfl, hb⟩; have n0 := Aside0.mk (show Bk a0 a1 a2 a3 a4 a5 a6 a7 a8 a9 a10 a11 d0 d1 d2 d3 d4 d5 d6 d7 y0 y1 y2 y3 y4 y5 y6 y7 w.heap.size (w.heap.size + 1) b3 w w5 by first|exact Z.out.below hb|exact (Z.out.below (below_drew1 (Below.refl _ _))).below hb); clear hb Z; clear s0 s1 s2 s3 s4 s5 s6 s7 s8 s9 s10 s11 e0 e1 e2 e3 e4 e5 e6 e7 f0 f1 f2 f3 f4 f5 f6 f7; have Z := n0; clear n0; obtain ⟨s0, s1, s2, s3, s4, s5, s6, s7, s8, s9, s10, s11⟩ := cells12 Z.out.k1; obtain ⟨e0, e1, e2, e3, e4, e5, e6, e7⟩ := oct_cells Z.out.k2; obtain ⟨f0, f1, f2, f3, f4, f5, f6, f7⟩ := oct_cells Z.out.k3
      dsimp only
      refine hK.out _ _ ⟨s0, s1, s2, s3, s4, s5, s6, s7, s8, s9, s10, s11⟩ (fun hS0 => ?_)
      clear hK K
      try simp only [Act.put, List.setIfInBounds_toArray, List.set_cons_zero, List.set_cons_succ]
      refine wpAnyH_take (i := 1) (oi := ⟨some 32, _, _, _, _, _⟩) (v := (.bool true)) rfl (by kernel_rfl) (by kernel_rfl) (by kernel_rfl) (fun _ _ _ h => h) (Or.inl ⟨by rfl, fun w hSw => by (try dsimp only at hSw); go_simp⟩) (by assumption) ?_
      try simp only [Act.put, List.setIfInBounds_toArray, List.set_cons_zero, List.set_cons_succ]
      refine wpAnyH_take (i := 2) (oi := ⟨some 33, _, _, _, _, _⟩) (v := (.pointer (some ⟨w.heap.size, 0, none⟩))) rfl (by kernel_rfl) (by kernel_rfl) (by kernel_rfl) (fun _ _ _ h => h) (Or.inl ⟨by rfl, fun w hSw => by (try dsimp only at hSw); go_simp⟩) (by assumption) ?_
      try simp only [Act.put, List.setIfInBounds_toArray, List.set_cons_zero, List.set_cons_succ]
      refine wpAnyH_take (i := 3) (oi := ⟨some 34, _, _, _, _, _⟩) (v := (.agg #[.int .i64 a0, .int .i64 a1, .bool a2, .bool a3, .int .i64 a4, .int .i64 a5])) rfl (by kernel_rfl) (by kernel_rfl) (by kernel_rfl) (fun _ _ _ h => h) (Or.inl ⟨by rfl, fun w hSw => by (try dsimp only at hSw); go_simp⟩) (by assumption) ?_
      try simp only [Act.put, List.setIfInBounds_toArray, List.set_cons_zero, List.set_cons_succ]
      refine wpAnyH_take (i := 4) (oi := ⟨some 35, _, _, _, _, _⟩) (v := (.pointer (some ⟨w.heap.size, 6, none⟩))) rfl (by kernel_rfl) (by kernel_rfl) (by kernel_rfl) (fun _ _ _ h => h) (Or.inl ⟨by rfl, fun w hSw => by (try dsimp only at hSw); go_simp⟩) (by assumption) ?_
      try simp only [Act.put, List.setIfInBounds_toArray, List.set_cons_zero, List.set_cons_succ]
      refine wpAnyH_take (i := 5) (oi := ⟨some 36, _, _, _, _, _⟩) (v := (.agg #[.int .i64 a6, .int .i64 a7, .bool a8, .bool a9, .int .i64 a10, .int .i64 a11])) rfl (by kernel_rfl) (by kernel_rfl) (by kernel_rfl) (fun _ _ _ h => h) (Or.inl ⟨by rfl, fun w hSw => by (try dsimp only at hSw); go_simp⟩) (by assumption) ?_
      try simp only [Act.put, List.setIfInBounds_toArray, List.set_cons_zero, List.set_cons_succ]
      refine wpAnyH_ready (rs := [6]) (by kernel_rfl) (by simp) ?_
      refine AllReadyH.cons (o := ⟨some 37, _, _, _, _, _⟩) rfl (fun K hK => ?_) AllReadyH.nil
      go_simp
      go_at_call 31
      (with_reducible refine (RM.out _).mono ?_); rintro e w5 ⟨rfl, hb⟩; have n0 := Aside0.mk (show Bk a0 a1 a2 a3 a4 a5 a6 a7 a8 a9 a10 a11 d0 d1 d2 d3 d4 d5 d6 d7 y0 y1 y2 y3 y4 y5 y6 y7 w.heap.size (w.heap.size + 1) b3 w w5 by first|exact Z.out.below hb|exact (Z.out.below (below_drew1 (Below.refl _ _))).below hb); clear hb Z; clear s0 s1 s2 s3 s4 s5 s6 s7 s8 s9 s10 s11 e0 e1 e2 e3 e4 e5 e6 e7 f0 f1 f2 f3 f4 f5 f6 f7; have Z := n0; clear n0; obtain ⟨s0, s1, s2, s3, s4, s5, s6, s7, s8, s9, s10, s11⟩ := cells12 Z.out.k1; obtain ⟨e0, e1, e2, e3, e4, e5, e6, e7⟩ := oct_cells Z.out.k2; obtain ⟨f0, f1, f2, f3, f4, f5, f6, f7⟩ := oct_cells Z.out.k3
      dsimp only
      refine hK.out _ _ ⟨s0, s1, s2, s3, s4, s5, s6, s7, s8, s9, s10, s11⟩ (fun hS6 => ?_)
      clear hK K
      try simp only [Act.put, List.setIfInBounds_toArray, List.set_cons_zero, List.set_cons_succ]
      refine wpAnyH_take (i := 7) (oi := ⟨some 38, _, _, _, _, _⟩) (v := (.bool true)) rfl (by kernel_rfl) (by kernel_rfl) (by kernel_rfl) (fun _ _ _ h => h) (Or.inl ⟨by rfl, fun w hSw => by (try dsimp only at hSw); go_simp⟩) (by assumption) ?_
      try simp only [Act.put, List.setIfInBounds_toArray, List.set_cons_zero, List.set_cons_succ]
      refine wpAnyH_take (i := 8) (oi := ⟨some 39, _, _, _, _, _⟩) (v := undef) rfl (by kernel_rfl) (by kernel_rfl) (by kernel_rfl) (fun _ _ _ h => h) (Or.inr ⟨by rfl, rfl⟩) (by assumption) ?_
      try simp only [Act.put, List.setIfInBounds_toArray, List.set_cons_zero, List.set_cons_succ]
      refine wpAnyH_take (i := 9) (oi := ⟨some 40, _, _, _, _, _⟩) (v := undef) rfl (by kernel_rfl) (by kernel_rfl) (by kernel_rfl) (fun _ _ _ h => h) (Or.inr ⟨by rfl, rfl⟩) (by assumption) ?_
      try simp only [Act.put, List.setIfInBounds_toArray, List.set_cons_zero, List.set_cons_succ]
      refine wpAnyH_take (i := 10) (oi := ⟨some 41, _, _, _, _, _⟩) (v := undef) rfl (by kernel_rfl) (by kernel_rfl) (by kernel_rfl) (fun _ _ _ h => h) (Or.inr ⟨by rfl, rfl⟩) (by assumption) ?_
      try simp only [Act.put, List.setIfInBounds_toArray, List.set_cons_zero, List.set_cons_succ]
      refine wpAnyH_take (i := 11) (oi := ⟨some 42, _, _, _, _, _⟩) (v := undef) rfl (by kernel_rfl) (by kernel_rfl) (by kernel_rfl) (fun _ _ _ h => h) (Or.inr ⟨by rfl, rfl⟩) (by assumption) ?_
      try simp only [Act.put, List.setIfInBounds_toArray, List.set_cons_zero, List.set_cons_succ]
      refine wpAnyH_take (i := 12) (oi := ⟨some 43, _, _, _, _, _⟩) (v := undef) rfl (by kernel_rfl) (by kernel_rfl) (by kernel_rfl) (fun _ _ _ h => h) (Or.inr ⟨by rfl, rfl⟩) (by assumption) ?_
      try simp only [Act.put, List.setIfInBounds_toArray, List.set_cons_zero, List.set_cons_succ]
      refine wpAnyH_take (i := 13) (oi := ⟨some 44, _, _, _, _, _⟩) (v := undef) rfl (by kernel_rfl) (by kernel_rfl) (by kernel_rfl) (fun _ _ _ h => h) (Or.inr ⟨by rfl, rfl⟩) (by assumption) ?_
      try simp only [Act.put, List.setIfInBounds_toArray, List.set_cons_zero, List.set_cons_succ]
      refine wpAnyH_take (i := 14) (oi := ⟨some 45, _, _, _, _, _⟩) (v := undef) rfl (by kernel_rfl) (by kernel_rfl) (by kernel_rfl) (fun _ _ _ h => h) (Or.inr ⟨by rfl, rfl⟩) (by assumption) ?_
      try simp only [Act.put, List.setIfInBounds_toArray, List.set_cons_zero, List.set_cons_succ]
      refine wpAnyH_take (i := 15) (oi := ⟨some 46, _, _, _, _, _⟩) (v := undef) rfl (by kernel_rfl) (by kernel_rfl) (by kernel_rfl) (fun _ _ _ h => h) (Or.inr ⟨by rfl, rfl⟩) (by assumption) ?_
      try simp only [Act.put, List.setIfInBounds_toArray, List.set_cons_zero, List.set_cons_succ]
      refine wpAnyH_take (i := 16) (oi := ⟨some 47, _, _, _, _, _⟩) (v := undef) rfl (by kernel_rfl) (by kernel_rfl) (by kernel_rfl) (fun _ _ _ h => h) (Or.inr ⟨by rfl, rfl⟩) (by assumption) ?_
      try simp only [Act.put, List.setIfInBounds_toArray, List.set_cons_zero, List.set_cons_succ]
      refine wpAnyH_take (i := 17) (oi := ⟨some 48, _, _, _, _, _⟩) (v := (.bool true)) rfl (by kernel_rfl) (by kernel_rfl) (by kernel_rfl) (fun _ _ _ h => h) (Or.inl ⟨by rfl, fun w hSw => by (try dsimp only at hSw); go_simp⟩) (by assumption) ?_
      try simp only [Act.put, List.setIfInBounds_toArray, List.set_cons_zero, List.set_cons_succ]
      refine wpAnyH_take (i := 18) (oi := ⟨some 49, _, _, _, _, _⟩) (v := (.bool true)) rfl (by kernel_rfl) (by kernel_rfl) (by kernel_rfl) (fun _ _ _ h => h) (Or.inl ⟨by rfl, fun w hSw => by (try dsimp only at hSw); go_simp⟩) (by assumption) ?_
      try simp only [Act.put, List.setIfInBounds_toArray, List.set_cons_zero, List.set_cons_succ]
      refine wpAnyH_take (i := 19) (oi := ⟨some 6, _, _, _, _, _⟩) (v := (.bool true)) rfl (by kernel_rfl) (by kernel_rfl) (by kernel_rfl) (fun _ _ _ h => h) (Or.inl ⟨by rfl, fun w hSw => by (try dsimp only at hSw); go_simp⟩) (by assumption) ?_
      try simp only [Act.put, List.setIfInBounds_toArray, List.set_cons_zero, List.set_cons_succ]
      refine wpAnyH_done (by kernel_rfl) ?_ _
      go_wp2
      go_ret
      exact ⟨rfl, by first | exact Z.out.B | exact (Z.out.below (below_drew1 (Below.refl _ _))).B⟩
  · have u1 : (er != 0) = true := by simpa using he
    have hz := FF.out.1 he
    simp only [zeros8, List.cons.injEq, and_true] at hz
    obtain ⟨rfl, rfl, rfl, rfl, rfl, rfl, rfl, rfl⟩ := hz
    clear he FF
    go_wp2_with (first | (go_at_call 16; (with_reducible refine (live_calls _).mono ?_); rintro e w5 ⟨rfl, hb⟩; have n0 := Aside0.mk (show Bk a0 a1 a2 a3 a4 a5 a6 a7 a8 a9 a10 a11 d0 d1 d2 d3 d4 d5 d6 d7 0 0 0 0 0 0 0 0 w.heap.size (w.heap.size + 1) W1.heap.size w w5 by first | exact Z.out.below hb | exact (Z.out.below (below_drew1 (Below.refl _ _))).below hb); clear hb Z; clear s0 s1 s2 s3 s4 s5 s6 s7 s8 s9 s10 s11 e0 e1 e2 e3 e4 e5 e6 e7 f0 f1 f2 f3 f4 f5 f6 f7; have Z := n0; clear n0; obtain ⟨s0, s1, s2, s3, s4, s5, s6, s7, s8, s9, s10, s11⟩ := cells12 Z.out.k1; obtain ⟨e0, e1, e2, e3, e4, e5, e6, e7⟩ := oct_cells Z.out.k2; obtain ⟨f0, f1, f2, f3, f4, f5, f6, f7⟩ := oct_cells Z.out.k3))
    go_ret
    exact ⟨rfl, Z.out.B⟩
theorem byts_of {d0 d1 d2 d3 d4 d5 d6 d7 : Int} (h0 : (Lit.int .u8 d0).wf = true) (h1 : (Lit.int .u8 d1).wf = true) (h2 : (Lit.int .u8 d2).wf = true) (h3 : (Lit.int .u8 d3).wf = true) (h4 : (Lit.int .u8 d4).wf = true) (h5 : (Lit.int .u8 d5).wf = true) (h6 : (Lit.int .u8 d6).wf = true) (h7 : (Lit.int .u8 d7).wf = true) : Byts [d0, d1, d2, d3, d4, d5, d6, d7] := by
  simp only [Lit.wf, Bool.and_eq_true, decide_eq_true_eq] at h0 h1 h2 h3 h4 h5 h6 h7
  refine ⟨rfl, fun x hx => ?_⟩
  simp only [List.mem_cons, List.not_mem_nil, or_false] at hx
  rcases hx with rfl | rfl | rfl | rfl | rfl | rfl | rfl | rfl <;> assumption
theorem SignalBack_walk (a0_0 : Int) (a0_1 : Int) (a0_2 : Bool) (a0_3 : Bool) (a0_4 : Int) (a0_5 : Int) (a0_6 : Int) (a0_7 : Int) (a0_8 : Bool) (a0_9 : Bool) (a0_10 : Int) (a0_11 : Int) (a1_0 a1_1 a1_2 a1_3 a1_4 a1_5 a1_6 a1_7 a2 : Int) (w : World) (w0_0 : (Lit.int .i64 a0_0).wf = true) (w0_1 : (Lit.int .i64 a0_1).wf = true) (w0_4 : (Lit.int .i64 a0_4).wf = true) (w0_5 : (Lit.int .i64 a0_5).wf = true) (w0_6 : (Lit.int .i64 a0_6).wf = true) (w0_7 : (Lit.int .i64 a0_7).wf = true) (w0_10 : (Lit.int .i64 a0_10).wf = true) (w0_11 : (Lit.int .i64 a0_11).wf = true) (w1_0 : (Lit.int .u8 a1_0).wf = true) (w1_1 : (Lit.int .u8 a1_1).wf = true) (w1_2 : (Lit.int .u8 a1_2).wf = true) (w1_3 : (Lit.int .u8 a1_3).wf = true) (w1_4 : (Lit.int .u8 a1_4).wf = true) (w1_5 : (Lit.int .u8 a1_5).wf = true) (w1_6 : (Lit.int .u8 a1_6).wf = true) (w1_7 : (Lit.int .u8 a1_7).wf = true) (w2 : (Lit.int .i64 a2).wf = true) :
    Calls Try.prog 5 #[.agg #[.int .i64 a0_0, .int .i64 a0_1, .bool a0_2, .bool a0_3, .int .i64 a0_4, .int .i64 a0_5, .int .i64 a0_6, .int .i64 a0_7, .bool a0_8, .bool a0_9, .int .i64 a0_10, .int .i64 a0_11], .agg #[.int .u8 a1_0, .int .u8 a1_1, .int .u8 a1_2, .int .u8 a1_3, .int .u8 a1_4, .int .u8 a1_5, .int .u8 a1_6, .int .u8 a1_7], .int .i64 a2] w fun e w' => e = .returned (.bool true) ∧ Below w.heap.size w w' :=
  SignalBack_core a0_0 a0_1 a0_2 a0_3 a0_4 a0_5 a0_6 a0_7 a0_8 a0_9 a0_10 a0_11 a1_0 a1_1 a1_2 a1_3 a1_4 a1_5 a1_6 a1_7 a2 w (byts_of w1_0 w1_1 w1_2 w1_3 w1_4 w1_5 w1_6 w1_7)
end Go.Proofs.Ytepeihlhokpjjaa.P
