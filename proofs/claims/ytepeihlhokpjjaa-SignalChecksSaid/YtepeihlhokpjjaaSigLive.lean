/- What must be whatever is asked, of signals: the walk. No condition. -/
import Derived.Test.YtepeihlhokpjjaaSigLiveCalls
namespace Go.Proofs.Ytepeihlhokpjjaa.P
open Go.RowKit Go.Proofs.YtepeihlhokpjjaaW.PrintWords Go.Proofs.YtepeihlhokpjjaaW.PrintLast Go.Proofs.YtepeihlhokpjjaaW.PrintMore
set_option linter.unusedVariables false
set_option linter.unusedSimpArgs false
theorem sgl_cells {w : World} {g : Nat} {a0 a1 : Int} {a2 a3 : Bool} {a4 a5 : Int} (h : w.heap[g]? = some (.cells #[.int .i64 a0, .int .i64 a1, .bool a2, .bool a3, .int .i64 a4, .int .i64 a5] 23 (0, 0))) :
    w.cell? ⟨g, 0, none⟩ = some (.int .i64 a0) ∧ w.cell? ⟨g, 1, none⟩ = some (.int .i64 a1) ∧ w.cell? ⟨g, 2, none⟩ = some (.bool a2) ∧ w.cell? ⟨g, 3, none⟩ = some (.bool a3) ∧ w.cell? ⟨g, 4, none⟩ = some (.int .i64 a4) ∧ w.cell? ⟨g, 5, none⟩ = some (.int .i64 a5) :=
  ⟨(blk_cell h 0).trans rfl, (blk_cell h 1).trans rfl, (blk_cell h 2).trans rfl, (blk_cell h 3).trans rfl, (blk_cell h 4).trans rfl, (blk_cell h 5).trans rfl⟩
theorem eqD (w : World) : (binOp .eql 24 (.agg (oct 5 0 0 0 0 0 0 0)) (.agg (oct 5 0 0 0 0 0 0 0))).run Try.prog w = .ok (.bool true) w := by kernel_rfl
theorem eqF (w : World) : (binOp .eql 24 (.agg (oct 5 255 254 0 0 0 0 0)) (.agg (oct 5 255 254 0 0 0 0 0))).run Try.prog w = .ok (.bool true) w := by kernel_rfl
theorem lc16 (A : Option Addr) (c : Nat) (hc : 2 ≤ c) (g : Nat) (w : World) (h1 : (Kd.int .i64).C w A 2 [5, -3]) (h2 : w.heap[g]? = some (.cells #[.int .i64 5, .int .i64 (-3)] 2 (0, 0))) :
    Calls Try.prog 32 #[.slice A 2 c, .slice (some ⟨g, 0, none⟩) 2 2] w fun e w' => e = .returned (.bool true) ∧ Below w.heap.size w w' :=
  (bellbuoyref35_Longs.calls 5 A c [5, -3] (some ⟨g, 0, none⟩) 2 [5, -3] true w h1 hc (rowC_ints h2) (Nat.le_refl _) (by decide +kernel)).mono (fun e w' h => ⟨h.1, h.2.below⟩)
set_option maxHeartbeats 40000000 in
set_option maxRecDepth 100000 in
theorem live_calls (w : World) : Calls Try.prog 16 #[] w fun e w' => e = .returned (.bool true) ∧ Below w.heap.size w w' := by
  have hu23 := Try.underlying23
  have hu24 := Try.underlying24
  have hu39 := Try.underlying39
  have hu40 := Try.underlying40
  have hD := eqD
  have hF := eqF
  have K1 := Aside0.mk (blk_below (blk_new w (.cells #[.int .i64 0, .int .i64 8, .bool false, .bool false, .int .i64 1, .int .i64 0] 23)) (below_alloc (Below.refl _ _) (.cells #[.int .i64 15, .int .i64 16, .bool true, .bool true, .int .i64 2, .int .i64 1] 23)))
  have K2 := Aside0.mk (blk_new2 w (.cells #[.int .i64 0, .int .i64 8, .bool false, .bool false, .int .i64 1, .int .i64 0] 23) (.cells #[.int .i64 15, .int .i64 16, .bool true, .bool true, .int .i64 2, .int .i64 1] 23))
  have B := Aside0.mk (below_alloc (below_alloc (Below.refl w.heap.size w) (.cells #[.int .i64 0, .int .i64 8, .bool false, .bool false, .int .i64 1, .int .i64 0] 23)) (.cells #[.int .i64 15, .int .i64 16, .bool true, .bool true, .int .i64 2, .int .i64 1] 23))
  go_enter Try.func16, Try.ntmps16
  go_wp2_with fail
  (with_reducible refine (lc1 _).mono ?_)
  rintro e W1 ⟨rfl, hb⟩
  have nK1 := Aside0.mk (blk_below K1.out hb)
  have nK2 := Aside0.mk (blk_below K2.out hb)
  have nB := Aside0.mk (below_step B.out hb)
  clear hb B K1 K2
  have K1 := nK1
  have K2 := nK2
  have B := nB
  clear nB nK1 nK2
  have nK1 := Aside0.mk (blk_below K1.out (below_alloc (Below.refl _ _) (.cells (oct 5 0 0 0 0 0 0 0) 24)))
  have nK2 := Aside0.mk (blk_below K2.out (below_alloc (Below.refl _ _) (.cells (oct 5 0 0 0 0 0 0 0) 24)))
  have nK3 := Aside0.mk (blk_new W1 (.cells (oct 5 0 0 0 0 0 0 0) 24))
  have nB := Aside0.mk (below_alloc B.out (.cells (oct 5 0 0 0 0 0 0 0) 24))
  clear B K1 K2
  have K1 := nK1
  have K2 := nK2
  have K3 := nK3
  have B := nB
  clear nB nK1 nK2 nK3
  obtain ⟨b0, b1, b2, b3, b4, b5⟩ := sgl_cells K2.out
  obtain ⟨c0, c1, c2, c3, c4, c5, c6, c7⟩ := oct_cells K3.out
  go_wp2_with fail
  clear b0 b1 b2 b3 b4 b5 c0 c1 c2 c3 c4 c5 c6 c7
  (with_reducible refine (lc2 _).mono ?_)
  rintro e W2 ⟨rfl, hb⟩
  have nK1 := Aside0.mk (blk_below K1.out hb)
  have nK2 := Aside0.mk (blk_below K2.out hb)
  have nK3 := Aside0.mk (blk_below K3.out hb)
  have nB := Aside0.mk (below_step B.out hb)
  clear hb B K1 K2 K3
  have K1 := nK1
  have K2 := nK2
  have K3 := nK3
  have B := nB
  clear nB nK1 nK2 nK3
  have nK1 := Aside0.mk (blk_below K1.out (below_alloc (Below.refl _ _) (.cells (oct 5 255 254 0 0 0 0 0) 24)))
  have nK2 := Aside0.mk (blk_below K2.out (below_alloc (Below.refl _ _) (.cells (oct 5 255 254 0 0 0 0 0) 24)))
  have nK3 := Aside0.mk (blk_below K3.out (below_alloc (Below.refl _ _) (.cells (oct 5 255 254 0 0 0 0 0) 24)))
  have nK5 := Aside0.mk (blk_new W2 (.cells (oct 5 255 254 0 0 0 0 0) 24))
  have nB := Aside0.mk (below_alloc B.out (.cells (oct 5 255 254 0 0 0 0 0) 24))
  clear B K1 K2 K3
  have K1 := nK1
  have K2 := nK2
  have K3 := nK3
  have K5 := nK5
  have B := nB
  clear nB nK1 nK2 nK3 nK5
  obtain ⟨a0, a1, a2, a3, a4, a5⟩ := sgl_cells K1.out
  obtain ⟨c0, c1, c2, c3, c4, c5, c6, c7⟩ := oct_cells K3.out
  go_wp2_with fail
  clear a0 a1 a2 a3 a4 a5 c0 c1 c2 c3 c4 c5 c6 c7
  (with_reducible refine (lc3 _).mono ?_)
  rintro e W3 ⟨rfl, hb⟩
  have nK1 := Aside0.mk (blk_below K1.out hb)
  have nK2 := Aside0.mk (blk_below K2.out hb)
  have nK3 := Aside0.mk (blk_below K3.out hb)
  have nK5 := Aside0.mk (blk_below K5.out hb)
  have nB := Aside0.mk (below_step B.out hb)
  clear hb B K1 K2 K3 K5
  have K1 := nK1
  have K2 := nK2
  have K3 := nK3
  have K5 := nK5
  have B := nB
  clear nB nK1 nK2 nK3 nK5
  have nK1 := Aside0.mk (blk_below K1.out (below_alloc (Below.refl _ _) (.cells (oct 0 0 0 0 0 0 0 0) 24)))
  have nK2 := Aside0.mk (blk_below K2.out (below_alloc (Below.refl _ _) (.cells (oct 0 0 0 0 0 0 0 0) 24)))
  have nK3 := Aside0.mk (blk_below K3.out (below_alloc (Below.refl _ _) (.cells (oct 0 0 0 0 0 0 0 0) 24)))
  have nK5 := Aside0.mk (blk_below K5.out (below_alloc (Below.refl _ _) (.cells (oct 0 0 0 0 0 0 0 0) 24)))
  have nB := Aside0.mk (below_alloc B.out (.cells (oct 0 0 0 0 0 0 0 0) 24))
  clear B K1 K2 K3 K5
  have K1 := nK1
  have K2 := nK2
  have K3 := nK3
  have K5 := nK5
  have B := nB
  clear nB nK1 nK2 nK3 nK5
  obtain ⟨c0, c1, c2, c3, c4, c5, c6, c7⟩ := oct_cells K3.out
  go_wp2_with fail
  clear c0 c1 c2 c3 c4 c5 c6 c7
  (with_reducible refine (lc4 _).mono ?_)
  rintro e W4 ⟨rfl, hb⟩
  have nK1 := Aside0.mk (blk_below K1.out hb)
  have nK2 := Aside0.mk (blk_below K2.out hb)
  have nK3 := Aside0.mk (blk_below K3.out hb)
  have nK5 := Aside0.mk (blk_below K5.out hb)
  have nB := Aside0.mk (below_step B.out hb)
  clear hb B K1 K2 K3 K5
  have K1 := nK1
  have K2 := nK2
  have K3 := nK3
  have K5 := nK5
  have B := nB
  clear nB nK1 nK2 nK3 nK5
  have nK1 := Aside0.mk (blk_below K1.out (below_alloc (Below.refl _ _) (.cells (oct 0 0 0 0 0 0 0 0) 24)))
  have nK2 := Aside0.mk (blk_below K2.out (below_alloc (Below.refl _ _) (.cells (oct 0 0 0 0 0 0 0 0) 24)))
  have nK3 := Aside0.mk (blk_below K3.out (below_alloc (Below.refl _ _) (.cells (oct 0 0 0 0 0 0 0 0) 24)))
  have nK5 := Aside0.mk (blk_below K5.out (below_alloc (Below.refl _ _) (.cells (oct 0 0 0 0 0 0 0 0) 24)))
  have nB := Aside0.mk (below_alloc B.out (.cells (oct 0 0 0 0 0 0 0 0) 24))
  clear B K1 K2 K3 K5
  have K1 := nK1
  have K2 := nK2
  have K3 := nK3
  have K5 := nK5
  have B := nB
  clear nB nK1 nK2 nK3 nK5
  obtain ⟨b0, b1, b2, b3, b4, b5⟩ := sgl_cells K2.out
  go_wp2_with fail
  clear b0 b1 b2 b3 b4 b5
  (with_reducible refine (lc5 _).mono ?_)
  rintro e W5 ⟨rfl, hb⟩
  have nK1 := Aside0.mk (blk_below K1.out hb)
  have nK2 := Aside0.mk (blk_below K2.out hb)
  have nK3 := Aside0.mk (blk_below K3.out hb)
  have nK5 := Aside0.mk (blk_below K5.out hb)
  have nB := Aside0.mk (below_step B.out hb)
  clear hb B K1 K2 K3 K5
  have K1 := nK1
  have K2 := nK2
  have K3 := nK3
  have K5 := nK5
  have B := nB
  clear nB nK1 nK2 nK3 nK5
  obtain ⟨b0, b1, b2, b3, b4, b5⟩ := sgl_cells K2.out
  go_wp2_with fail
  clear b0 b1 b2 b3 b4 b5
  (with_reducible refine (lc6 _).mono ?_)
  rintro e W6 ⟨rfl, hb⟩
  have nK1 := Aside0.mk (blk_below K1.out hb)
  have nK2 := Aside0.mk (blk_below K2.out hb)
  have nK3 := Aside0.mk (blk_below K3.out hb)
  have nK5 := Aside0.mk (blk_below K5.out hb)
  have nB := Aside0.mk (below_step B.out hb)
  clear hb B K1 K2 K3 K5
  have K1 := nK1
  have K2 := nK2
  have K3 := nK3
  have K5 := nK5
  have B := nB
  clear nB nK1 nK2 nK3 nK5
  obtain ⟨a0, a1, a2, a3, a4, a5⟩ := sgl_cells K1.out
  obtain ⟨b0, b1, b2, b3, b4, b5⟩ := sgl_cells K2.out
  go_wp2_with fail
  clear a0 a1 a2 a3 a4 a5 b0 b1 b2 b3 b4 b5
  have nK1 := Aside0.mk (blk_below K1.out (below_alloc (Below.refl _ _) (.cells #[.int .i64 0, .int .i64 8, .bool false, .bool false, .int .i64 1, .int .i64 0, .int .i64 15, .int .i64 16, .bool true, .bool true, .int .i64 2, .int .i64 1] 23)))
  have nK2 := Aside0.mk (blk_below K2.out (below_alloc (Below.refl _ _) (.cells #[.int .i64 0, .int .i64 8, .bool false, .bool false, .int .i64 1, .int .i64 0, .int .i64 15, .int .i64 16, .bool true, .bool true, .int .i64 2, .int .i64 1] 23)))
  have nK3 := Aside0.mk (blk_below K3.out (below_alloc (Below.refl _ _) (.cells #[.int .i64 0, .int .i64 8, .bool false, .bool false, .int .i64 1, .int .i64 0, .int .i64 15, .int .i64 16, .bool true, .bool true, .int .i64 2, .int .i64 1] 23)))
  have nK5 := Aside0.mk (blk_below K5.out (below_alloc (Below.refl _ _) (.cells #[.int .i64 0, .int .i64 8, .bool false, .bool false, .int .i64 1, .int .i64 0, .int .i64 15, .int .i64 16, .bool true, .bool true, .int .i64 2, .int .i64 1] 23)))
  have nB := Aside0.mk (below_alloc B.out (.cells #[.int .i64 0, .int .i64 8, .bool false, .bool false, .int .i64 1, .int .i64 0, .int .i64 15, .int .i64 16, .bool true, .bool true, .int .i64 2, .int .i64 1] 23))
  clear B K1 K2 K3 K5
  have K1 := nK1
  have K2 := nK2
  have K3 := nK3
  have K5 := nK5
  have B := nB
  clear nB nK1 nK2 nK3 nK5
  have nK1 := Aside0.mk (blk_below K1.out (below_alloc (Below.refl _ _) (.cells #[.int .i64 5, .int .i64 (-3)] 2)))
  have nK2 := Aside0.mk (blk_below K2.out (below_alloc (Below.refl _ _) (.cells #[.int .i64 5, .int .i64 (-3)] 2)))
  have nK3 := Aside0.mk (blk_below K3.out (below_alloc (Below.refl _ _) (.cells #[.int .i64 5, .int .i64 (-3)] 2)))
  have nK5 := Aside0.mk (blk_below K5.out (below_alloc (Below.refl _ _) (.cells #[.int .i64 5, .int .i64 (-3)] 2)))
  have nB := Aside0.mk (below_alloc B.out (.cells #[.int .i64 5, .int .i64 (-3)] 2))
  clear B K1 K2 K3 K5
  have K1 := nK1
  have K2 := nK2
  have K3 := nK3
  have K5 := nK5
  have B := nB
  clear nB nK1 nK2 nK3 nK5
  (with_reducible refine (lc8 _ _ _ (blk_below (blk_new _ _) (below_alloc (Below.refl _ _) _)) (blk_new2 _ _ _)).mono ?_)
  rintro e W7 ⟨rfl, hb⟩
  have nK1 := Aside0.mk (blk_below K1.out hb)
  have nK2 := Aside0.mk (blk_below K2.out hb)
  have nK3 := Aside0.mk (blk_below K3.out hb)
  have nK5 := Aside0.mk (blk_below K5.out hb)
  have nB := Aside0.mk (below_step B.out hb)
  clear hb B K1 K2 K3 K5
  have K1 := nK1
  have K2 := nK2
  have K3 := nK3
  have K5 := nK5
  have B := nB
  clear nB nK1 nK2 nK3 nK5
  have nK1 := Aside0.mk (blk_below K1.out (below_alloc (Below.refl _ _) (.cells (oct 5 255 254 0 0 0 0 0) 24)))
  have nK2 := Aside0.mk (blk_below K2.out (below_alloc (Below.refl _ _) (.cells (oct 5 255 254 0 0 0 0 0) 24)))
  have nK3 := Aside0.mk (blk_below K3.out (below_alloc (Below.refl _ _) (.cells (oct 5 255 254 0 0 0 0 0) 24)))
  have nK5 := Aside0.mk (blk_below K5.out (below_alloc (Below.refl _ _) (.cells (oct 5 255 254 0 0 0 0 0) 24)))
  have nK15 := Aside0.mk (blk_new W7 (.cells (oct 5 255 254 0 0 0 0 0) 24))
  have nB := Aside0.mk (below_alloc B.out (.cells (oct 5 255 254 0 0 0 0 0) 24))
  clear B K1 K2 K3 K5
  have K1 := nK1
  have K2 := nK2
  have K3 := nK3
  have K5 := nK5
  have K15 := nK15
  have B := nB
  clear nB nK1 nK2 nK3 nK5 nK15
  obtain ⟨a0, a1, a2, a3, a4, a5⟩ := sgl_cells K1.out
  obtain ⟨b0, b1, b2, b3, b4, b5⟩ := sgl_cells K2.out
  have KF := Aside0.mk (blk_below K5.out (below_alloc (Below.refl _ _) (.cells #[.int .i64 0, .int .i64 8, .bool false, .bool false, .int .i64 1, .int .i64 0, .int .i64 15, .int .i64 16, .bool true, .bool true, .int .i64 2, .int .i64 1] 23)))
  obtain ⟨f0, f1, f2, f3, f4, f5, f6, f7⟩ := oct_cells KF.out
  go_wp2_with fail
  clear KF
  clear a0 a1 a2 a3 a4 a5 b0 b1 b2 b3 b4 b5 f0 f1 f2 f3 f4 f5 f6 f7
  have nK1 := Aside0.mk (blk_below K1.out (below_alloc (Below.refl _ _) (.cells #[.int .i64 0, .int .i64 8, .bool false, .bool false, .int .i64 1, .int .i64 0, .int .i64 15, .int .i64 16, .bool true, .bool true, .int .i64 2, .int .i64 1] 23)))
  have nK2 := Aside0.mk (blk_below K2.out (below_alloc (Below.refl _ _) (.cells #[.int .i64 0, .int .i64 8, .bool false, .bool false, .int .i64 1, .int .i64 0, .int .i64 15, .int .i64 16, .bool true, .bool true, .int .i64 2, .int .i64 1] 23)))
  have nK3 := Aside0.mk (blk_below K3.out (below_alloc (Below.refl _ _) (.cells #[.int .i64 0, .int .i64 8, .bool false, .bool false, .int .i64 1, .int .i64 0, .int .i64 15, .int .i64 16, .bool true, .bool true, .int .i64 2, .int .i64 1] 23)))
  have nK5 := Aside0.mk (blk_below K5.out (below_alloc (Below.refl _ _) (.cells #[.int .i64 0, .int .i64 8, .bool false, .bool false, .int .i64 1, .int .i64 0, .int .i64 15, .int .i64 16, .bool true, .bool true, .int .i64 2, .int .i64 1] 23)))
  have nK15 := Aside0.mk (blk_below K15.out (below_alloc (Below.refl _ _) (.cells #[.int .i64 0, .int .i64 8, .bool false, .bool false, .int .i64 1, .int .i64 0, .int .i64 15, .int .i64 16, .bool true, .bool true, .int .i64 2, .int .i64 1] 23)))
  have nB := Aside0.mk (below_alloc B.out (.cells #[.int .i64 0, .int .i64 8, .bool false, .bool false, .int .i64 1, .int .i64 0, .int .i64 15, .int .i64 16, .bool true, .bool true, .int .i64 2, .int .i64 1] 23))
  clear B K1 K2 K3 K5 K15
  have K1 := nK1
  have K2 := nK2
  have K3 := nK3
  have K5 := nK5
  have K15 := nK15
  have B := nB
  clear nB nK1 nK2 nK3 nK5 nK15
  (with_reducible refine (lc9 _ _ (blk_new2 _ _ _)).mono ?_)
  rintro e W8 ⟨v, rfl, hR, hb⟩
  obtain ⟨AR, cR, ev, hlR, hCR⟩ := Kd.R_reads hR
  subst ev
  have HCR := Aside0.mk hCR
  clear hCR hR
  have nK1 := Aside0.mk (blk_below K1.out hb)
  have nK2 := Aside0.mk (blk_below K2.out hb)
  have nK3 := Aside0.mk (blk_below K3.out hb)
  have nK5 := Aside0.mk (blk_below K5.out hb)
  have nK15 := Aside0.mk (blk_below K15.out hb)
  have nB := Aside0.mk (below_step B.out hb)
  clear hb B K1 K2 K3 K5 K15
  have K1 := nK1
  have K2 := nK2
  have K3 := nK3
  have K5 := nK5
  have K15 := nK15
  have B := nB
  clear nB nK1 nK2 nK3 nK5 nK15
  obtain ⟨a0, a1, a2, a3, a4, a5⟩ := sgl_cells K1.out
  go_wp2_with fail
  clear a0 a1 a2 a3 a4 a5
  have nHCR := Aside0.mk (Kd.C_below HCR.out (below_alloc (Below.refl _ _) (.cells #[.int .i64 0, .int .i64 8, .bool false, .bool false, .int .i64 1, .int .i64 0, .int .i64 0, .int .i64 8, .bool false, .bool false, .int .i64 1, .int .i64 0] 23)))
  have nK1 := Aside0.mk (blk_below K1.out (below_alloc (Below.refl _ _) (.cells #[.int .i64 0, .int .i64 8, .bool false, .bool false, .int .i64 1, .int .i64 0, .int .i64 0, .int .i64 8, .bool false, .bool false, .int .i64 1, .int .i64 0] 23)))
  have nK2 := Aside0.mk (blk_below K2.out (below_alloc (Below.refl _ _) (.cells #[.int .i64 0, .int .i64 8, .bool false, .bool false, .int .i64 1, .int .i64 0, .int .i64 0, .int .i64 8, .bool false, .bool false, .int .i64 1, .int .i64 0] 23)))
  have nK3 := Aside0.mk (blk_below K3.out (below_alloc (Below.refl _ _) (.cells #[.int .i64 0, .int .i64 8, .bool false, .bool false, .int .i64 1, .int .i64 0, .int .i64 0, .int .i64 8, .bool false, .bool false, .int .i64 1, .int .i64 0] 23)))
  have nK5 := Aside0.mk (blk_below K5.out (below_alloc (Below.refl _ _) (.cells #[.int .i64 0, .int .i64 8, .bool false, .bool false, .int .i64 1, .int .i64 0, .int .i64 0, .int .i64 8, .bool false, .bool false, .int .i64 1, .int .i64 0] 23)))
  have nK15 := Aside0.mk (blk_below K15.out (below_alloc (Below.refl _ _) (.cells #[.int .i64 0, .int .i64 8, .bool false, .bool false, .int .i64 1, .int .i64 0, .int .i64 0, .int .i64 8, .bool false, .bool false, .int .i64 1, .int .i64 0] 23)))
  have nB := Aside0.mk (below_alloc B.out (.cells #[.int .i64 0, .int .i64 8, .bool false, .bool false, .int .i64 1, .int .i64 0, .int .i64 0, .int .i64 8, .bool false, .bool false, .int .i64 1, .int .i64 0] 23))
  clear B K1 K2 K3 K5 K15
  have K1 := nK1
  have K2 := nK2
  have K3 := nK3
  have K5 := nK5
  have K15 := nK15
  have B := nB
  clear nB nK1 nK2 nK3 nK5 nK15
  (with_reducible refine (lc10 _ _ (blk_new _ _)).mono ?_)
  rintro e W9 ⟨rfl, hb⟩
  have HCS := Aside0.mk (Kd.C_below nHCR.out hb)
  clear HCR nHCR
  have nK1 := Aside0.mk (blk_below K1.out hb)
  have nK2 := Aside0.mk (blk_below K2.out hb)
  have nK3 := Aside0.mk (blk_below K3.out hb)
  have nK5 := Aside0.mk (blk_below K5.out hb)
  have nK15 := Aside0.mk (blk_below K15.out hb)
  have nB := Aside0.mk (below_step B.out hb)
  clear hb B K1 K2 K3 K5 K15
  have K1 := nK1
  have K2 := nK2
  have K3 := nK3
  have K5 := nK5
  have K15 := nK15
  have B := nB
  clear nB nK1 nK2 nK3 nK5 nK15
  obtain ⟨b0, b1, b2, b3, b4, b5⟩ := sgl_cells K2.out
  go_wp2_with fail
  clear b0 b1 b2 b3 b4 b5
  (with_reducible refine (lc7 _).mono ?_)
  rintro e W10 ⟨rfl, hb⟩
  have HCR := Aside0.mk (Kd.C_below HCS.out hb)
  clear HCS
  have nK1 := Aside0.mk (blk_below K1.out hb)
  have nK2 := Aside0.mk (blk_below K2.out hb)
  have nK3 := Aside0.mk (blk_below K3.out hb)
  have nK5 := Aside0.mk (blk_below K5.out hb)
  have nK15 := Aside0.mk (blk_below K15.out hb)
  have nB := Aside0.mk (below_step B.out hb)
  clear hb B K1 K2 K3 K5 K15
  have K1 := nK1
  have K2 := nK2
  have K3 := nK3
  have K5 := nK5
  have K15 := nK15
  have B := nB
  clear nB nK1 nK2 nK3 nK5 nK15
  obtain ⟨a0, a1, a2, a3, a4, a5⟩ := sgl_cells K1.out
  obtain ⟨b0, b1, b2, b3, b4, b5⟩ := sgl_cells K2.out
  obtain ⟨c0, c1, c2, c3, c4, c5, c6, c7⟩ := oct_cells K3.out
  obtain ⟨f0, f1, f2, f3, f4, f5, f6, f7⟩ := oct_cells K5.out
  obtain ⟨x0, x1, x2, x3, x4, x5, x6, x7⟩ := oct_cells K15.out
  go_wp2_with fail
  clear a0 a1 a2 a3 a4 a5 b0 b1 b2 b3 b4 b5 c0 c1 c2 c3 c4 c5 c6 c7 f0 f1 f2 f3 f4 f5 f6 f7 x0 x1 x2 x3 x4 x5 x6 x7
  have nHCR := Aside0.mk (Kd.C_below HCR.out (below_alloc (Below.refl _ _) (.cells #[.int .i64 5, .int .i64 (-3)] 2)))
  have nK1 := Aside0.mk (blk_below K1.out (below_alloc (Below.refl _ _) (.cells #[.int .i64 5, .int .i64 (-3)] 2)))
  have nK2 := Aside0.mk (blk_below K2.out (below_alloc (Below.refl _ _) (.cells #[.int .i64 5, .int .i64 (-3)] 2)))
  have nK3 := Aside0.mk (blk_below K3.out (below_alloc (Below.refl _ _) (.cells #[.int .i64 5, .int .i64 (-3)] 2)))
  have nK5 := Aside0.mk (blk_below K5.out (below_alloc (Below.refl _ _) (.cells #[.int .i64 5, .int .i64 (-3)] 2)))
  have nK15 := Aside0.mk (blk_below K15.out (below_alloc (Below.refl _ _) (.cells #[.int .i64 5, .int .i64 (-3)] 2)))
  have nB := Aside0.mk (below_alloc B.out (.cells #[.int .i64 5, .int .i64 (-3)] 2))
  clear B K1 K2 K3 K5 K15
  have K1 := nK1
  have K2 := nK2
  have K3 := nK3
  have K5 := nK5
  have K15 := nK15
  have B := nB
  clear nB nK1 nK2 nK3 nK5 nK15
  (with_reducible refine (lc16 _ _ hlR _ _ nHCR.out (blk_new _ _)).mono ?_)
  rintro e W11 ⟨rfl, hb⟩
  clear HCR nHCR
  have nK1 := Aside0.mk (blk_below K1.out hb)
  have nK2 := Aside0.mk (blk_below K2.out hb)
  have nK3 := Aside0.mk (blk_below K3.out hb)
  have nK5 := Aside0.mk (blk_below K5.out hb)
  have nK15 := Aside0.mk (blk_below K15.out hb)
  have nB := Aside0.mk (below_step B.out hb)
  clear hb B K1 K2 K3 K5 K15
  have K1 := nK1
  have K2 := nK2
  have K3 := nK3
  have K5 := nK5
  have K15 := nK15
  have B := nB
  clear nB nK1 nK2 nK3 nK5 nK15
  obtain ⟨b0, b1, b2, b3, b4, b5⟩ := sgl_cells K2.out
  obtain ⟨f0, f1, f2, f3, f4, f5, f6, f7⟩ := oct_cells K5.out
  go_wp2_with fail
  clear b0 b1 b2 b3 b4 b5 f0 f1 f2 f3 f4 f5 f6 f7
  (with_reducible refine (lc11 _).mono ?_)
  rintro e W12 ⟨rfl, hb⟩
  have nK1 := Aside0.mk (blk_below K1.out hb)
  have nK2 := Aside0.mk (blk_below K2.out hb)
  have nK3 := Aside0.mk (blk_below K3.out hb)
  have nK5 := Aside0.mk (blk_below K5.out hb)
  have nK15 := Aside0.mk (blk_below K15.out hb)
  have nB := Aside0.mk (below_step B.out hb)
  clear hb B K1 K2 K3 K5 K15
  have K1 := nK1
  have K2 := nK2
  have K3 := nK3
  have K5 := nK5
  have K15 := nK15
  have B := nB
  clear nB nK1 nK2 nK3 nK5 nK15
  obtain ⟨a0, a1, a2, a3, a4, a5⟩ := sgl_cells K1.out
  go_wp2_with fail
  clear a0 a1 a2 a3 a4 a5
  (with_reducible refine (lc12 _).mono ?_)
  rintro e W13 ⟨⟨A9, c9, rfl⟩, hb⟩
  have nK1 := Aside0.mk (blk_below K1.out hb)
  have nK2 := Aside0.mk (blk_below K2.out hb)
  have nK3 := Aside0.mk (blk_below K3.out hb)
  have nK5 := Aside0.mk (blk_below K5.out hb)
  have nK15 := Aside0.mk (blk_below K15.out hb)
  have nB := Aside0.mk (below_step B.out hb)
  clear hb B K1 K2 K3 K5 K15
  have K1 := nK1
  have K2 := nK2
  have K3 := nK3
  have K5 := nK5
  have K15 := nK15
  have B := nB
  clear nB nK1 nK2 nK3 nK5 nK15
  obtain ⟨a0, a1, a2, a3, a4, a5⟩ := sgl_cells K1.out
  go_wp2_with fail
  clear a0 a1 a2 a3 a4 a5
  (with_reducible refine (lc13 _).mono ?_)
  rintro e W14 ⟨rfl, hb⟩
  have nK1 := Aside0.mk (blk_below K1.out hb)
  have nK2 := Aside0.mk (blk_below K2.out hb)
  have nK3 := Aside0.mk (blk_below K3.out hb)
  have nK5 := Aside0.mk (blk_below K5.out hb)
  have nK15 := Aside0.mk (blk_below K15.out hb)
  have nB := Aside0.mk (below_step B.out hb)
  clear hb B K1 K2 K3 K5 K15
  have K1 := nK1
  have K2 := nK2
  have K3 := nK3
  have K5 := nK5
  have K15 := nK15
  have B := nB
  clear nB nK1 nK2 nK3 nK5 nK15
  obtain ⟨a0, a1, a2, a3, a4, a5⟩ := sgl_cells K1.out
  go_wp2_with fail
  clear a0 a1 a2 a3 a4 a5
  (with_reducible refine (lc14 _).mono ?_)
  rintro e W15 ⟨rfl, hb⟩
  have nK1 := Aside0.mk (blk_below K1.out hb)
  have nK2 := Aside0.mk (blk_below K2.out hb)
  have nK3 := Aside0.mk (blk_below K3.out hb)
  have nK5 := Aside0.mk (blk_below K5.out hb)
  have nK15 := Aside0.mk (blk_below K15.out hb)
  have nB := Aside0.mk (below_step B.out hb)
  clear hb B K1 K2 K3 K5 K15
  have K1 := nK1
  have K2 := nK2
  have K3 := nK3
  have K5 := nK5
  have K15 := nK15
  have B := nB
  clear nB nK1 nK2 nK3 nK5 nK15
  obtain ⟨a0, a1, a2, a3, a4, a5⟩ := sgl_cells K1.out
  obtain ⟨b0, b1, b2, b3, b4, b5⟩ := sgl_cells K2.out
  go_wp2_with fail
  clear a0 a1 a2 a3 a4 a5 b0 b1 b2 b3 b4 b5
  (with_reducible refine (lc15 _).mono ?_)
  rintro e W16 ⟨rfl, hb⟩
  have nK1 := Aside0.mk (blk_below K1.out hb)
  have nK2 := Aside0.mk (blk_below K2.out hb)
  have nK3 := Aside0.mk (blk_below K3.out hb)
  have nK5 := Aside0.mk (blk_below K5.out hb)
  have nK15 := Aside0.mk (blk_below K15.out hb)
  have nB := Aside0.mk (below_step B.out hb)
  clear hb B K1 K2 K3 K5 K15
  have K1 := nK1
  have K2 := nK2
  have K3 := nK3
  have K5 := nK5
  have K15 := nK15
  have B := nB
  clear nB nK1 nK2 nK3 nK5 nK15
  go_wp2
  go_ret
  exact ⟨rfl, B.out⟩
end Go.Proofs.Ytepeihlhokpjjaa.P
