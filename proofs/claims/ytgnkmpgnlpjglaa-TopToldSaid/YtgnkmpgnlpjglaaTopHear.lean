/- What a slave hears, by the program. Conditions: those that each lemma names. -/
import Derived.Test.YtgnkmpgnlpjglaaTopOf
namespace Go.Proofs.Ytgnkmpgnlpjglaa.P
open Go.RowKit Go.Proofs.YtgnkmpgnlpjglaaW.PrintWords Go.Proofs.YtgnkmpgnlpjglaaW.PrintLast Go.Proofs.YtgnkmpgnlpjglaaW.PrintMore Go.Shelf
set_option linter.unusedVariables false
set_option linter.unusedSimpArgs false
set_option maxHeartbeats 1000000 in
theorem SNew_calls (w : World) : Calls Try.prog 23 #[] w fun e w' => e = .returned (.pointer (some ⟨w.heap.size, 0, none⟩)) ∧ w' = w.alloc (.cells #[.pointer none] 111) := by
  have hu111 := Try.underlying111
  go_enter Try.func23, Try.ntmps23
  go_wp2
  go_ret
  exact ⟨rfl, rfl⟩
/-- Nothing but one block changes. -/
structure But1 (W W' : World) (m : Nat) : Prop where
  size : W.heap.size ≤ W'.heap.size
  blk : ∀ k, k < W.heap.size → k ≠ m → W'.heap[k]? = W.heap[k]?
  B : ∀ B, B ≤ m → B ≤ W.heap.size → Below B W W'
theorem But1.get {W W' : World} {m k : Nat} {o : Obj} (h : But1 W W' m) (hk : W.heap[k]? = some o) (hne : k ≠ m) : W'.heap[k]? = some o := (h.blk k (blk_lt hk) hne).trans hk
theorem cells5 {w : World} {g t : Nat} {y0 y1 y2 y3 y4 : Value} (h : w.heap[g]? = some (.cells #[y0, y1, y2, y3, y4] t (0, 0))) :
    w.cell? ⟨g, 0, none⟩ = some y0 ∧ w.cell? ⟨g, 1, none⟩ = some y1 ∧ w.cell? ⟨g, 2, none⟩ = some y2 ∧ w.cell? ⟨g, 3, none⟩ = some y3 ∧ w.cell? ⟨g, 4, none⟩ = some y4 :=
  ⟨(blk_cell h 0).trans rfl, (blk_cell h 1).trans rfl, (blk_cell h 2).trans rfl, (blk_cell h 3).trans rfl, (blk_cell h 4).trans rfl⟩
set_option maxHeartbeats 4000000 in
set_option maxRecDepth 100000 in
theorem Hear_turn (m : Nat) (rd c : Int) (r0 : 0 ≤ rd) (r1 : rd < 65536) (w : World) (h : w.heap[m]? = some (.cells #[.pointer none] 111 (0, 0))) :
    Calls Try.prog 29 #[.pointer (some ⟨m, 0, none⟩), .agg #[.bool false, .int .i64 1, .int .i64 rd, .int .i64 0], .int .i64 c] w fun e w' => (∃ v, e = .returned v) ∧ ∃ b, w'.heap[m]? = some (.cells #[.pointer (some ⟨b, 0, none⟩)] 111 (0, 0)) ∧ w'.heap[b]? = some (.cells #[.bool false, .int .i64 1, .int .i64 rd, .int .i64 0, .int .i64 c] 122 (0, 0)) ∧ w.heap.size ≤ b ∧ But1 w w' m := by
  have hu71 := Try.underlying71
  have hu111 := Try.underlying111
  have hu122 := Try.underlying122
  have SR := Aside0.mk (fun w => slave_Right.calls 2 false 1 rd 0 true w (sRight0 rd r0 r1))
  have HM := Aside0.mk (blk_alloc h (.cells #[.bool false, .int .i64 1, .int .i64 rd, .int .i64 0] 71))
  have KW := Aside0.mk (blk_new w (.cells #[.bool false, .int .i64 1, .int .i64 rd, .int .i64 0] 71))
  have B := Aside0.mk (below_alloc (Below.refl w.heap.size w) (.cells #[.bool false, .int .i64 1, .int .i64 rd, .int .i64 0] 71))
  have LM := Aside0.mk (blk_lt h)
  clear h r0 r1
  obtain ⟨c0, c1, c2, c3⟩ := wcells4 KW.out
  go_enter Try.func29, Try.ntmps29
  go_wp2_with fail
  (with_reducible refine (SR.out _).mono ?_)
  rintro e W1 ⟨rfl, hb⟩
  have nM := Aside0.mk (blk_below HM.out hb)
  have nW := Aside0.mk (blk_below KW.out hb)
  have nB := Aside0.mk (below_step B.out hb)
  clear hb HM KW B c0 c1 c2 c3
  obtain ⟨c0, c1, c2, c3⟩ := wcells4 nW.out
  have m0 := (blk_cell nM.out 0).trans rfl
  have f0 := blk_frozen nM.out 0
  have KT := Aside0.mk (blk_new W1 (.cells #[.bool false, .int .i64 1, .int .i64 rd, .int .i64 0, .int .i64 c] 122))
  have nM2 := Aside0.mk (blk_alloc nM.out (.cells #[.bool false, .int .i64 1, .int .i64 rd, .int .i64 0, .int .i64 c] 122))
  have f1 := blk_frozen nM2.out 0
  have m1 := (blk_cell nM2.out 0).trans rfl
  go_wp2
  (try simp only [Exit.inBlock, Exit.then])
  refine bodyPost_ret (results_tmp3 rfl _ _ _) rfl ?_
  have lb := blk_lt nM.out
  have B2 := below_alloc nB.out (.cells #[.bool false, .int .i64 1, .int .i64 rd, .int .i64 0, .int .i64 c] 122)
  refine ⟨⟨_, rfl⟩, W1.heap.size, blk_put nM2.out 0 _ rfl, blk_far KT.out (show W1.heap.size ≠ m by omega) _, nB.out.size, ⟨?_, ?_, ?_⟩⟩
  · exact ((B2.mono (Nat.zero_le _)).setCell (p := ⟨m, 0, none⟩) (Nat.zero_le _) (.pointer (some ⟨W1.heap.size, 0, none⟩))).size
  · intro k hk hne
    exact (Below.heap_setCell _ _ _ _ hne).trans (B2.block k hk)
  · intro B' h1 h2
    exact (B2.mono h2).setCell (p := ⟨m, 0, none⟩) h1 _
set_option maxHeartbeats 4000000 in
set_option maxRecDepth 100000 in
theorem Hear_follow (m b : Nat) (rd tm c c2 : Int) (r0 : 0 ≤ rd) (r1 : rd < 65536) (t0 : 0 ≤ tm) (t1 : tm < 281474976710656) (w : World) (h : w.heap[m]? = some (.cells #[.pointer (some ⟨b, 0, none⟩)] 111 (0, 0))) (hb : w.heap[b]? = some (.cells #[.bool false, .int .i64 1, .int .i64 rd, .int .i64 0, .int .i64 c] 122 (0, 0))) :
    Calls Try.prog 29 #[.pointer (some ⟨m, 0, none⟩), .agg #[.bool true, .int .i64 1, .int .i64 rd, .int .i64 tm], .int .i64 c2] w fun e w' => e = .returned (.tuple #[.int .i64 c, .int .i64 tm, .bool true]) ∧ But1 w w' m := by
  have hu71 := Try.underlying71
  have hu111 := Try.underlying111
  have hu122 := Try.underlying122
  have SR := Aside0.mk (fun w => slave_Right.calls 2 true 1 rd tm true w (sRight1 rd tm r0 r1 t0 t1))
  have HM := Aside0.mk (blk_alloc h (.cells #[.bool true, .int .i64 1, .int .i64 rd, .int .i64 tm] 71))
  have HB := Aside0.mk (blk_alloc hb (.cells #[.bool true, .int .i64 1, .int .i64 rd, .int .i64 tm] 71))
  have KW := Aside0.mk (blk_new w (.cells #[.bool true, .int .i64 1, .int .i64 rd, .int .i64 tm] 71))
  have B := Aside0.mk (below_alloc (Below.refl w.heap.size w) (.cells #[.bool true, .int .i64 1, .int .i64 rd, .int .i64 tm] 71))
  have NE := Aside0.mk (And.intro (blk_lt h) (blk_ne h hb (by decide)))
  have q1 : (rd == rd) = true := by simp
  clear h hb r0 r1 t0 t1
  obtain ⟨c0, c1, c2', c3⟩ := wcells4 KW.out
  go_enter Try.func29, Try.ntmps29
  go_wp2_with fail
  (with_reducible refine (SR.out _).mono ?_)
  rintro e W1 ⟨rfl, hb⟩
  have nM := Aside0.mk (blk_below HM.out hb)
  have nT := Aside0.mk (blk_below HB.out hb)
  have nW := Aside0.mk (blk_below KW.out hb)
  have nB := Aside0.mk (below_step B.out hb)
  clear hb HM HB KW B c0 c1 c2' c3
  obtain ⟨c0, c1, c2', c3⟩ := wcells4 nW.out
  obtain ⟨g0, g1, g2, g3, g4⟩ := cells5 nT.out
  have m0 := (blk_cell nM.out 0).trans rfl
  have f0 := blk_frozen nM.out 0
  go_wp2
  go_region_held3 (fun w' => w'.cell? ⟨m, 0, none⟩ = some (.pointer (some ⟨b, 0, none⟩)) ∧ w'.cell? ⟨b, 0, none⟩ = some (.bool false) ∧ w'.cell? ⟨b, 1, none⟩ = some (.int .i64 1) ∧ w'.cell? ⟨b, 2, none⟩ = some (.int .i64 rd) ∧ w'.cell? ⟨b, 3, none⟩ = some (.int .i64 0) ∧ w'.cell? ⟨w.heap.size, 1, none⟩ = some (.int .i64 1) ∧ w'.cell? ⟨w.heap.size, 2, none⟩ = some (.int .i64 rd)) (go_keep) (fail)
  go_wp2
  have lm := NE.out.1
  have KX := blk_drew (blk_far nW.out (p := ⟨m, 0, none⟩) (show w.heap.size ≠ m by omega) (.pointer none))
  have BX : Aside0 (But1 w (W1.setCell ⟨m, 0, none⟩ (.pointer none)).drew m) := ⟨⟨below_drew1 ((nB.out.mono (Nat.zero_le _)).setCell (p := ⟨m, 0, none⟩) (Nat.zero_le _) (.pointer none)) |>.size,
    fun k hk hne => (Below.heap_setCell _ _ _ _ hne).trans (nB.out.block k hk), fun B' h1 h2 => below_drew1 ((nB.out.mono h2).setCell (p := ⟨m, 0, none⟩) h1 _)⟩⟩
  clear c0 c1 c2' c3 g0 g1 g2 g3 g4 m0 f0 nM nT nW nB lm
  generalize (W1.setCell ⟨m, 0, none⟩ (.pointer none)).drew = W2 at KX BX ⊢
  have c3 : W2.cell? ⟨w.heap.size, 3, none⟩ = some (.int .i64 tm) := (blk_cell KX 3).trans rfl
  go_region_held3 (fun w' => w'.cell? ⟨w.heap.size, 3, none⟩ = some (.int .i64 tm)) (go_keep) (fail)
  go_wp2
  (try simp only [Exit.inBlock, Exit.then])
  refine bodyPost_ret (results_tmp3 rfl _ _ _) rfl ?_
  exact ⟨rfl, ⟨BX.out.size, BX.out.blk, fun B' h1 h2 => below_drew1 (BX.out.B B' h1 h2)⟩⟩
end Go.Proofs.Ytgnkmpgnlpjglaa.P
