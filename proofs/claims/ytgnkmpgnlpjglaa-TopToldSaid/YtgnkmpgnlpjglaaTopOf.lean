/- The word of a frame, by the program. Conditions: those that each lemma names. -/
import Derived.Test.YtgnkmpgnlpjglaaTopFrame
import Derived.ChangeKeysEq
namespace Go.Proofs.Ytgnkmpgnlpjglaa.P
open Go.RowKit Go.Proofs.YtgnkmpgnlpjglaaW.PrintWords Go.Proofs.YtgnkmpgnlpjglaaW.PrintLast Go.Proofs.YtgnkmpgnlpjglaaW.PrintMore Go.Shelf
set_option linter.unusedVariables false
set_option linter.unusedSimpArgs false
theorem frozen4 {w : World} {g t : Nat} {cs : Array Value} (h : w.heap[g]? = some (.cells cs t (0, 0))) :
    w.frozen? ⟨g, 0, none⟩ = false ∧ w.frozen? ⟨g, 1, none⟩ = false ∧ w.frozen? ⟨g, 2, none⟩ = false ∧ w.frozen? ⟨g, 3, none⟩ = false := ⟨blk_frozen h 0, blk_frozen h 1, blk_frozen h 2, blk_frozen h 3⟩
abbrev set4 (w : World) (g : Nat) (v0 v1 v2 v3 : Value) : World := (((w.setCell ⟨g, 0, none⟩ v0).setCell ⟨g, 1, none⟩ v1).setCell ⟨g, 2, none⟩ v2).setCell ⟨g, 3, none⟩ v3
theorem set4_blk {w : World} {g t : Nat} {y0 y1 y2 y3 : Value} (v0 v1 v2 v3 : Value) (h : w.heap[g]? = some (.cells #[y0, y1, y2, y3] t (0, 0))) : (set4 w g v0 v1 v2 v3).heap[g]? = some (.cells #[v0, v1, v2, v3] t (0, 0)) := by
  have h0 := blk_put (cs' := #[v0, y1, y2, y3]) h 0 v0 rfl
  have h1 := blk_put (cs' := #[v0, v1, y2, y3]) h0 1 v1 rfl
  have h2 := blk_put (cs' := #[v0, v1, v2, y3]) h1 2 v2 rfl
  exact blk_put (cs' := #[v0, v1, v2, v3]) h2 3 v3 rfl
theorem set4_far {w : World} {g k t : Nat} {cs : Array Value} (v0 v1 v2 v3 : Value) (h : w.heap[k]? = some (.cells cs t (0, 0))) (hne : k ≠ g) : (set4 w g v0 v1 v2 v3).heap[k]? = some (.cells cs t (0, 0)) :=
  blk_far (blk_far (blk_far (blk_far h hne _) hne _) hne _) hne _
theorem set4_below {B : Nat} {w0 w : World} {g : Nat} (v0 v1 v2 v3 : Value) (h : Below B w0 w) (hg : B ≤ g) : Below B w0 (set4 w g v0 v1 v2 v3) :=
  (((h.setCell (p := ⟨g, 0, none⟩) hg v0).setCell (p := ⟨g, 1, none⟩) hg v1).setCell (p := ⟨g, 2, none⟩) hg v2).setCell (p := ⟨g, 3, none⟩) hg v3
set_option maxRecDepth 100000 in
theorem eqA (y0 y1 y2 y3 y4 y5 y6 y7 : Int) (w : World) : (Op.equalIn 9999 65 (.agg #[.int .u8 y0, .int .u8 y1, .int .u8 y2, .int .u8 y3, .int .u8 y4, .int .u8 y5, .int .u8 y6, .int .u8 y7]) (.agg #[.int .u8 y0, .int .u8 y1, .int .u8 y2, .int .u8 y3, .int .u8 y4, .int .u8 y5, .int .u8 y6, .int .u8 y7])).run Try.prog w = .ok true w := by
  have e := run_equalIn_array (P := Try.prog) w 9998 #[.int .u8 y0, .int .u8 y1, .int .u8 y2, .int .u8 y3, .int .u8 y4, .int .u8 y5, .int .u8 y6, .int .u8 y7] #[.int .u8 y0, .int .u8 y1, .int .u8 y2, .int .u8 y3, .int .u8 y4, .int .u8 y5, .int .u8 y6, .int .u8 y7] Try.underlying65 (i := Try.t5) rfl
  rw [show List.range 8 = [0, 1, 2, 3, 4, 5, 6, 7] from rfl, show Try.prog.cellsOf 5 = 1 by kernel_rfl] at e
  rw [e]
  simp [Op.eqItems, go_sem]
set_option maxHeartbeats 8000000 in
set_option maxRecDepth 100000 in
theorem Of2 (rd : Int) (r0 : 0 ≤ rd) (r1 : rd < 65536) (d0 d1 : Int) (h2 : byteL rd 2 = [d0, d1]) (w : World) : Calls Try.prog 27 #[.agg #[.bool false, .int .u32 1, .bool false, .int .i64 2, .int .u8 d0, .int .u8 d1, .int .u8 0, .int .u8 0, .int .u8 0, .int .u8 0, .int .u8 0, .int .u8 0]] w fun e w' => e = .returned (.tuple #[.agg #[.bool false, .int .i64 1, .int .i64 rd, .int .i64 0], .bool true]) ∧ Below w.heap.size w w' := by
  have hu64 := Try.underlying64
  have hu65 := Try.underlying65
  have hu67 := Try.underlying67
  have hu71 := Try.underlying71
  have w1 : IntKind.i64.wrap 1 = 1 := by decide +kernel
  have an : Go.bits .and .u32 1 32 = 0 := by decide +kernel
  have NC : Aside0 (∀ W : World, W.heap[w.heap.size]? = some (.cells #[.bool false, .int .u32 1, .bool false, .int .i64 2, .int .u8 d0, .int .u8 d1, .int .u8 0, .int .u8 0, .int .u8 0, .int .u8 0, .int .u8 0, .int .u8 0] 67 (0, 0)) → Calls Try.prog 63 #[.slice (some ⟨w.heap.size, 4, none⟩) 2 8] W fun e W' => e = .returned (.int .i64 rd) ∧ Below W.heap.size W W') := ⟨fun W h => number63 rd r0 r1 (some ⟨w.heap.size, 4, none⟩) 8 W (by rw [h2]; exact C_blk h 4 2 [d0, d1] rfl (by decide) (fun j x hj => by
    match j, hj with
    | 0, hj => cases hj; rfl
    | 1, hj => cases hj; rfl
    | j + 2, hj => cases hj))⟩
  have FC := Aside0.mk (fun w => Frame2 rd r0 r1 d0 d1 h2 w)
  have RC := Aside0.mk (fun w => fRight2 1 d0 d1 (by decide) (by decide) w)
  clear r0 r1 h2 
  have KF := Aside0.mk (blk_alloc (blk_new w (.cells #[.bool false, .int .u32 1, .bool false, .int .i64 2, .int .u8 d0, .int .u8 d1, .int .u8 0, .int .u8 0, .int .u8 0, .int .u8 0, .int .u8 0, .int .u8 0] 67)) (.cells #[.bool false, .int .i64 0, .int .i64 0, .int .i64 0] 71))
  have KR := Aside0.mk (blk_new (w.alloc (.cells #[.bool false, .int .u32 1, .bool false, .int .i64 2, .int .u8 d0, .int .u8 d1, .int .u8 0, .int .u8 0, .int .u8 0, .int .u8 0, .int .u8 0, .int .u8 0] 67)) (.cells #[.bool false, .int .i64 0, .int .i64 0, .int .i64 0] 71))
  have B := Aside0.mk (below_alloc (below_alloc (Below.refl w.heap.size w) (.cells #[.bool false, .int .u32 1, .bool false, .int .i64 2, .int .u8 d0, .int .u8 d1, .int .u8 0, .int .u8 0, .int .u8 0, .int .u8 0, .int .u8 0, .int .u8 0] 67)) (.cells #[.bool false, .int .i64 0, .int .i64 0, .int .i64 0] 71))
  have hsz : (w.alloc (.cells #[.bool false, .int .u32 1, .bool false, .int .i64 2, .int .u8 d0, .int .u8 d1, .int .u8 0, .int .u8 0, .int .u8 0, .int .u8 0, .int .u8 0, .int .u8 0] 67)).heap.size = w.heap.size + 1 := by simp
  rw [hsz] at KR
  clear hsz
  go_enter Try.func27, Try.ntmps27
  go_wp2_with fail
  generalize (w.alloc (.cells #[.bool false, .int .u32 1, .bool false, .int .i64 2, .int .u8 d0, .int .u8 d1, .int .u8 0, .int .u8 0, .int .u8 0, .int .u8 0, .int .u8 0, .int .u8 0] 67)).alloc (.cells #[.bool false, .int .i64 0, .int .i64 0, .int .i64 0] 71) = W0 at KF KR B ⊢
  refine wp_region_held_drew (S := (fun w' : World => w'.cell? ⟨w.heap.size, 1, none⟩ = some (.int .u32 1))) (by kernel_rfl) ((blk_cell KF.out 1).trans rfl) (fun hS0 => ?_)
  refine wpAnyH_take (i := 0) (oi := ⟨some 7, _, _, _, _, _⟩) (v := (.pointer (some ⟨w.heap.size, 0, none⟩))) rfl (by kernel_rfl) (by kernel_rfl) (by kernel_rfl) (fun _ _ _ h => h) (Or.inl ⟨by rfl, fun w hSw => by (try dsimp only at hSw); go_simp⟩) (by assumption) ?_
  try simp only [Act.put, List.setIfInBounds_toArray, List.set_cons_zero, List.set_cons_succ]
  refine wpAnyH_take (i := 1) (oi := ⟨some 8, _, _, _, _, _⟩) (v := (.pointer (some ⟨w.heap.size, 1, none⟩))) rfl (by kernel_rfl) (by kernel_rfl) (by kernel_rfl) (fun _ _ _ h => h) (Or.inl ⟨by rfl, fun w hSw => by (try dsimp only at hSw); go_simp⟩) (by assumption) ?_
  try simp only [Act.put, List.setIfInBounds_toArray, List.set_cons_zero, List.set_cons_succ]
  refine wpAnyH_take (i := 2) (oi := ⟨some 9, _, _, _, _, _⟩) (v := (.int .u32 1)) rfl (by kernel_rfl) (by kernel_rfl) (by kernel_rfl) (fun _ _ _ h => h) (Or.inl ⟨by rfl, fun w hSw => by (try dsimp only at hSw); go_simp⟩) (by assumption) ?_
  try simp only [Act.put, List.setIfInBounds_toArray, List.set_cons_zero, List.set_cons_succ]
  refine wpAnyH_take (i := 3) (oi := ⟨some 10, _, _, _, _, _⟩) (v := (.int .u32 0)) rfl (by kernel_rfl) (by kernel_rfl) (by kernel_rfl) (fun _ _ _ h => h) (Or.inl ⟨by rfl, fun w hSw => by (try dsimp only at hSw); go_simp⟩) (by assumption) ?_
  try simp only [Act.put, List.setIfInBounds_toArray, List.set_cons_zero, List.set_cons_succ]
  refine wpAnyH_take (i := 4) (oi := ⟨some 11, _, _, _, _, _⟩) (v := (.bool false)) rfl (by kernel_rfl) (by kernel_rfl) (by kernel_rfl) (fun _ _ _ h => h) (Or.inl ⟨by rfl, fun w hSw => by (try dsimp only at hSw); go_simp⟩) (by assumption) ?_
  try simp only [Act.put, List.setIfInBounds_toArray, List.set_cons_zero, List.set_cons_succ]
  refine wpAnyH_take (i := 5) (oi := ⟨some 12, _, _, _, _, _⟩) (v := (.pointer (some ⟨w.heap.size, 0, none⟩))) rfl (by kernel_rfl) (by kernel_rfl) (by kernel_rfl) (fun _ _ _ h => h) (Or.inl ⟨by rfl, fun w hSw => by (try dsimp only at hSw); go_simp⟩) (by assumption) ?_
  try simp only [Act.put, List.setIfInBounds_toArray, List.set_cons_zero, List.set_cons_succ]
  refine wpAnyH_take (i := 6) (oi := ⟨some 13, _, _, _, _, _⟩) (v := (.pointer (some ⟨w.heap.size, 1, none⟩))) rfl (by kernel_rfl) (by kernel_rfl) (by kernel_rfl) (fun _ _ _ h => h) (Or.inl ⟨by rfl, fun w hSw => by (try dsimp only at hSw); go_simp⟩) (by assumption) ?_
  try simp only [Act.put, List.setIfInBounds_toArray, List.set_cons_zero, List.set_cons_succ]
  refine wpAnyH_take (i := 7) (oi := ⟨some 14, _, _, _, _, _⟩) (v := (.int .u32 1)) rfl (by kernel_rfl) (by kernel_rfl) (by kernel_rfl) (fun _ _ _ h => h) (Or.inl ⟨by rfl, fun w hSw => by (try dsimp only at hSw); go_simp⟩) (by assumption) ?_
  try simp only [Act.put, List.setIfInBounds_toArray, List.set_cons_zero, List.set_cons_succ]
  refine wpAnyH_take (i := 8) (oi := ⟨some 15, _, _, _, _, _⟩) (v := (.int .u32 1)) rfl (by kernel_rfl) (by kernel_rfl) (by kernel_rfl) (fun _ _ _ h => h) (Or.inl ⟨by rfl, fun w hSw => by (try dsimp only at hSw); go_simp⟩) (by assumption) ?_
  try simp only [Act.put, List.setIfInBounds_toArray, List.set_cons_zero, List.set_cons_succ]
  refine wpAnyH_take (i := 9) (oi := ⟨some 16, _, _, _, _, _⟩) (v := (.int .i64 1)) rfl (by kernel_rfl) (by kernel_rfl) (by kernel_rfl) (fun _ _ _ h => h) (Or.inl ⟨by rfl, fun w hSw => by (try dsimp only at hSw); go_simp⟩) (by assumption) ?_
  try simp only [Act.put, List.setIfInBounds_toArray, List.set_cons_zero, List.set_cons_succ]
  refine wpAnyH_take (i := 10) (oi := ⟨some 17, _, _, _, _, _⟩) (v := (.pointer (some ⟨w.heap.size, 4, none⟩))) rfl (by kernel_rfl) (by kernel_rfl) (by kernel_rfl) (fun _ _ _ h => h) (Or.inl ⟨by rfl, fun w hSw => by (try dsimp only at hSw); go_simp⟩) (by assumption) ?_
  try simp only [Act.put, List.setIfInBounds_toArray, List.set_cons_zero, List.set_cons_succ]
  refine wpAnyH_take (i := 11) (oi := ⟨some 18, _, _, _, _, _⟩) (v := (.slice (some ⟨w.heap.size, 4, none⟩) 2 8)) rfl (by kernel_rfl) (by kernel_rfl) (by kernel_rfl) (fun _ _ _ h => h) (Or.inl ⟨by rfl, fun w hSw => by (try dsimp only at hSw); go_simp⟩) (by assumption) ?_
  try simp only [Act.put, List.setIfInBounds_toArray, List.set_cons_zero, List.set_cons_succ]
  refine wpAnyH_ready (rs := [12, 14]) (by kernel_rfl) (by simp) ?_
  refine AllReadyH.cons (o := ⟨some 19, _, _, _, _, _⟩) rfl (fun K hK => ?_) (AllReadyH.cons (o := ⟨some 4, _, _, _, _, _⟩) rfl (fun K hK => ?_) AllReadyH.nil)
  · go_simp
    have nF := Aside0.mk (blk_drew KF.out)
    have nR := Aside0.mk (blk_drew KR.out)
    have nB := Aside0.mk (below_step B.out (below_drew1 (Below.refl _ _)))
    clear KF KR B
    have KF := nF
    have KR := nR
    have B := nB
    clear nF nR nB
    generalize W0.drew = W0d at KF KR B ⊢
    go_at_call 63
    (with_reducible refine (NC.out _ KF.out).mono ?_); rintro e W5 ⟨rfl, hb⟩; have nF := Aside0.mk (blk_below KF.out hb); have nR := Aside0.mk (blk_below KR.out hb); have nB := Aside0.mk (below_step B.out hb); clear hb KF KR B; have KF := nF; have KR := nR; have B := nB; clear nF nR nB
    dsimp only
    refine hK.out _ _ ((blk_cell KF.out 1).trans rfl) (fun hS12 => ?_)
    clear hK K
    try simp only [Act.put, List.setIfInBounds_toArray, List.set_cons_zero, List.set_cons_succ]
    refine wpAnyH_take (i := 13) (oi := ⟨some 20, _, _, _, _, _⟩) (v := (.agg #[.bool false, .int .i64 1, .int .i64 rd, .int .i64 0])) rfl (by kernel_rfl) (by kernel_rfl) (by kernel_rfl) (fun _ _ _ h => h) (Or.inl ⟨by rfl, fun w hSw => by (try dsimp only at hSw); go_simp⟩) (by assumption) ?_
    try simp only [Act.put, List.setIfInBounds_toArray, List.set_cons_zero, List.set_cons_succ]
    refine wpAnyH_ready (rs := [14]) (by kernel_rfl) (by simp) ?_
    refine AllReadyH.cons (o := ⟨some 4, _, _, _, _, _⟩) rfl (fun K hK => ?_) AllReadyH.nil
    go_simp
    have KV := Aside0.mk (blk_new W5 (.cells #[.bool false, .int .i64 0, .int .i64 0, .int .i64 0] 71))
    have nF := Aside0.mk (blk_alloc KF.out (.cells #[.bool false, .int .i64 0, .int .i64 0, .int .i64 0] 71))
    have nR := Aside0.mk (blk_alloc KR.out (.cells #[.bool false, .int .i64 0, .int .i64 0, .int .i64 0] 71))
    have L5 : Aside0 (w.heap.size + 1 < W5.heap.size) := ⟨blk_lt KR.out⟩
    have nB := Aside0.mk (below_alloc B.out (.cells #[.bool false, .int .i64 0, .int .i64 0, .int .i64 0] 71))
    clear KF KR B
    have KF := nF
    have KR := nR
    have B := nB
    clear nF nR nB
    refine hK.out _ _ ((blk_cell KF.out 1).trans rfl) (fun hS14 => ?_)
    clear hK K
    try simp only [Act.put, List.setIfInBounds_toArray, List.set_cons_zero, List.set_cons_succ]
    generalize W5.alloc (.cells #[.bool false, .int .i64 0, .int .i64 0, .int .i64 0] 71) = W6 at KV KF KR B hS14 ⊢
    generalize W5.heap.size = b4 at KV L5 ⊢
    obtain ⟨g0, g1, g2, g3⟩ := wcells4 KV.out
    obtain ⟨f0, f1, f2, f3⟩ := frozen4 KV.out
    refine wpAnyH_ready (rs := [15]) (by kernel_rfl) (by simp) ?_
    refine AllReadyH.cons (o := ⟨none, _, _, _, _, _⟩) rfl (fun K hK => ?_) AllReadyH.nil
    go_simp
    have nF := Aside0.mk (set4_far (.bool false) (.int .i64 1) (.int .i64 rd) (.int .i64 0) KF.out (show w.heap.size ≠ b4 by have := L5.out; omega))
    have nR := Aside0.mk (set4_far (.bool false) (.int .i64 1) (.int .i64 rd) (.int .i64 0) KR.out (show w.heap.size + 1 ≠ b4 by have := L5.out; omega))
    have nV := Aside0.mk (set4_blk (.bool false) (.int .i64 1) (.int .i64 rd) (.int .i64 0) KV.out)
    have nB := Aside0.mk (set4_below (.bool false) (.int .i64 1) (.int .i64 rd) (.int .i64 0) B.out (show w.heap.size ≤ b4 by have := L5.out; omega))
    refine hK.out _ _ ((blk_cell nF.out 1).trans rfl) (fun hS15 => ?_)
    clear hK K g0 g1 g2 g3 f0 f1 f2 f3 KF KR KV B
    have KF := nF
    have KR := nR
    have KV := nV
    have B := nB
    clear nF nR nV nB hS15 hS14 hS12 hS0
    try simp only [Act.put, List.setIfInBounds_toArray, List.set_cons_zero, List.set_cons_succ]
    refine wpAnyH_done (by kernel_rfl) ?_ _
    simp only [set4] at KF KR KV B
    generalize (((W6.setCell ⟨b4, 0, none⟩ (.bool false)).setCell ⟨b4, 1, none⟩ (.int .i64 1)).setCell ⟨b4, 2, none⟩ (.int .i64 rd)).setCell ⟨b4, 3, none⟩ (.int .i64 0) = W7 at KF KR KV B ⊢
    obtain ⟨g0, g1, g2, g3⟩ := wcells4 KV.out
    go_wp2_with fail
    clear g0 g1 g2 g3
    (with_reducible refine (FC.out _).mono ?_)
    rintro e Wa ⟨rfl, hb⟩
    have nF := Aside0.mk (blk_alloc (blk_below KF.out hb) (.cells #[.bool false, .int .u32 1, .bool false, .int .i64 2, .int .u8 d0, .int .u8 d1, .int .u8 0, .int .u8 0, .int .u8 0, .int .u8 0, .int .u8 0, .int .u8 0] 67))
    have nR := Aside0.mk (blk_alloc (blk_below KR.out hb) (.cells #[.bool false, .int .u32 1, .bool false, .int .i64 2, .int .u8 d0, .int .u8 d1, .int .u8 0, .int .u8 0, .int .u8 0, .int .u8 0, .int .u8 0, .int .u8 0] 67))
    have nV := Aside0.mk (blk_alloc (blk_below KV.out hb) (.cells #[.bool false, .int .u32 1, .bool false, .int .i64 2, .int .u8 d0, .int .u8 d1, .int .u8 0, .int .u8 0, .int .u8 0, .int .u8 0, .int .u8 0, .int .u8 0] 67))
    have K5 := Aside0.mk (blk_new Wa (.cells #[.bool false, .int .u32 1, .bool false, .int .i64 2, .int .u8 d0, .int .u8 d1, .int .u8 0, .int .u8 0, .int .u8 0, .int .u8 0, .int .u8 0, .int .u8 0] 67))
    have nB := Aside0.mk (below_alloc (below_step B.out hb) (.cells #[.bool false, .int .u32 1, .bool false, .int .i64 2, .int .u8 d0, .int .u8 d1, .int .u8 0, .int .u8 0, .int .u8 0, .int .u8 0, .int .u8 0, .int .u8 0] 67))
    clear hb KF KR KV B
    have L6 : Aside0 (w.heap.size + 1 < b4) := L5
    obtain ⟨x0, x1, x2, x3, x4, x5, x6, x7, x8, x9, x10, x11⟩ := cells12 K5.out
    obtain ⟨y0, y1, y2, y3, y4, y5, y6, y7, y8, y9, y10, y11⟩ := cells12 nF.out
    have hA := eqA
    go_wp2_with fail
    (with_reducible refine (RC.out _).mono ?_)
    rintro e Wb ⟨rfl, hb⟩
    have KR := Aside0.mk (blk_below nR.out hb)
    have KV := Aside0.mk (blk_below nV.out hb)
    have B := Aside0.mk (below_step nB.out hb)
    clear hb nF nR nV nB K5 hA x0 x1 x2 x3 x4 x5 x6 x7 x8 x9 x10 x11 y0 y1 y2 y3 y4 y5 y6 y7 y8 y9 y10 y11
    obtain ⟨g0, g1, g2, g3⟩ := wcells4 KV.out
    obtain ⟨h0, h1, h2, h3⟩ := wcells4 KR.out
    obtain ⟨f0, f1, f2, f3⟩ := frozen4 KR.out
    go_wp2
    (try simp only [Exit.inBlock, Exit.then])
    refine bodyPost_ret (results_ct rfl _ _ (w.heap.size + 1) 71 #[.bool false, .int .i64 1, .int .i64 rd, .int .i64 0] (0, 0) _ rfl (set4_blk _ _ _ _ KR.out) Try.underlying71 rfl (by kernel_rfl)) rfl ?_
    exact ⟨rfl, set4_below _ _ _ _ B.out (by omega)⟩
  · go_simp
    have KV := Aside0.mk (blk_new W0 (.cells #[.bool false, .int .i64 0, .int .i64 0, .int .i64 0] 71))
    have nF := Aside0.mk (blk_alloc KF.out (.cells #[.bool false, .int .i64 0, .int .i64 0, .int .i64 0] 71))
    have nR := Aside0.mk (blk_alloc KR.out (.cells #[.bool false, .int .i64 0, .int .i64 0, .int .i64 0] 71))
    have L5 : Aside0 (w.heap.size + 1 < W0.heap.size) := ⟨blk_lt KR.out⟩
    have nB := Aside0.mk (below_alloc B.out (.cells #[.bool false, .int .i64 0, .int .i64 0, .int .i64 0] 71))
    clear KF KR B
    have KF := nF
    have KR := nR
    have B := nB
    clear nF nR nB
    refine hK.out _ _ ((blk_cell KF.out 1).trans rfl) (fun hS14 => ?_)
    clear hK K
    try simp only [Act.put, List.setIfInBounds_toArray, List.set_cons_zero, List.set_cons_succ]
    generalize W0.alloc (.cells #[.bool false, .int .i64 0, .int .i64 0, .int .i64 0] 71) = W6 at KV KF KR B hS14 ⊢
    generalize W0.heap.size = b4 at KV L5 ⊢
    refine wpAnyH_ready (rs := [12]) (by kernel_rfl) (by simp) ?_
    refine AllReadyH.cons (o := ⟨some 19, _, _, _, _, _⟩) rfl (fun K hK => ?_) AllReadyH.nil
    go_simp
    have nF := Aside0.mk (blk_drew KF.out)
    have nR := Aside0.mk (blk_drew KR.out)
    have nB := Aside0.mk (below_step B.out (below_drew1 (Below.refl _ _)))
    have nV := Aside0.mk (blk_drew KV.out)
    clear KF KR B KV
    have KF := nF
    have KR := nR
    have B := nB
    have KV := nV
    clear nF nR nB nV
    generalize W6.drew = W6d at KF KR B KV ⊢
    go_at_call 63
    (with_reducible refine (NC.out _ KF.out).mono ?_); rintro e W5 ⟨rfl, hb⟩; have nF := Aside0.mk (blk_below KF.out hb); have nR := Aside0.mk (blk_below KR.out hb); have nB := Aside0.mk (below_step B.out hb); have nV := Aside0.mk (blk_below KV.out hb); clear hb KF KR B KV; have KF := nF; have KR := nR; have B := nB; have KV := nV; clear nF nR nB nV
    dsimp only
    refine hK.out _ _ ((blk_cell KF.out 1).trans rfl) (fun hS12 => ?_)
    clear hK K
    try simp only [Act.put, List.setIfInBounds_toArray, List.set_cons_zero, List.set_cons_succ]
    refine wpAnyH_take (i := 13) (oi := ⟨some 20, _, _, _, _, _⟩) (v := (.agg #[.bool false, .int .i64 1, .int .i64 rd, .int .i64 0])) rfl (by kernel_rfl) (by kernel_rfl) (by kernel_rfl) (fun _ _ _ h => h) (Or.inl ⟨by rfl, fun w hSw => by (try dsimp only at hSw); go_simp⟩) (by assumption) ?_
    try simp only [Act.put, List.setIfInBounds_toArray, List.set_cons_zero, List.set_cons_succ]
    obtain ⟨g0, g1, g2, g3⟩ := wcells4 KV.out
    obtain ⟨f0, f1, f2, f3⟩ := frozen4 KV.out
    refine wpAnyH_ready (rs := [15]) (by kernel_rfl) (by simp) ?_
    refine AllReadyH.cons (o := ⟨none, _, _, _, _, _⟩) rfl (fun K hK => ?_) AllReadyH.nil
    go_simp
    have nF := Aside0.mk (set4_far (.bool false) (.int .i64 1) (.int .i64 rd) (.int .i64 0) KF.out (show w.heap.size ≠ b4 by have := L5.out; omega))
    have nR := Aside0.mk (set4_far (.bool false) (.int .i64 1) (.int .i64 rd) (.int .i64 0) KR.out (show w.heap.size + 1 ≠ b4 by have := L5.out; omega))
    have nV := Aside0.mk (set4_blk (.bool false) (.int .i64 1) (.int .i64 rd) (.int .i64 0) KV.out)
    have nB := Aside0.mk (set4_below (.bool false) (.int .i64 1) (.int .i64 rd) (.int .i64 0) B.out (show w.heap.size ≤ b4 by have := L5.out; omega))
    refine hK.out _ _ ((blk_cell nF.out 1).trans rfl) (fun hS15 => ?_)
    clear hK K g0 g1 g2 g3 f0 f1 f2 f3 KF KR KV B
    have KF := nF
    have KR := nR
    have KV := nV
    have B := nB
    clear nF nR nV nB hS15 hS14 hS12 hS0
    try simp only [Act.put, List.setIfInBounds_toArray, List.set_cons_zero, List.set_cons_succ]
    refine wpAnyH_done (by kernel_rfl) ?_ _
    simp only [set4] at KF KR KV B
    generalize (((W5.setCell ⟨b4, 0, none⟩ (.bool false)).setCell ⟨b4, 1, none⟩ (.int .i64 1)).setCell ⟨b4, 2, none⟩ (.int .i64 rd)).setCell ⟨b4, 3, none⟩ (.int .i64 0) = W7 at KF KR KV B ⊢
    obtain ⟨g0, g1, g2, g3⟩ := wcells4 KV.out
    go_wp2_with fail
    clear g0 g1 g2 g3
    (with_reducible refine (FC.out _).mono ?_)
    rintro e Wa ⟨rfl, hb⟩
    have nF := Aside0.mk (blk_alloc (blk_below KF.out hb) (.cells #[.bool false, .int .u32 1, .bool false, .int .i64 2, .int .u8 d0, .int .u8 d1, .int .u8 0, .int .u8 0, .int .u8 0, .int .u8 0, .int .u8 0, .int .u8 0] 67))
    have nR := Aside0.mk (blk_alloc (blk_below KR.out hb) (.cells #[.bool false, .int .u32 1, .bool false, .int .i64 2, .int .u8 d0, .int .u8 d1, .int .u8 0, .int .u8 0, .int .u8 0, .int .u8 0, .int .u8 0, .int .u8 0] 67))
    have nV := Aside0.mk (blk_alloc (blk_below KV.out hb) (.cells #[.bool false, .int .u32 1, .bool false, .int .i64 2, .int .u8 d0, .int .u8 d1, .int .u8 0, .int .u8 0, .int .u8 0, .int .u8 0, .int .u8 0, .int .u8 0] 67))
    have K5 := Aside0.mk (blk_new Wa (.cells #[.bool false, .int .u32 1, .bool false, .int .i64 2, .int .u8 d0, .int .u8 d1, .int .u8 0, .int .u8 0, .int .u8 0, .int .u8 0, .int .u8 0, .int .u8 0] 67))
    have nB := Aside0.mk (below_alloc (below_step B.out hb) (.cells #[.bool false, .int .u32 1, .bool false, .int .i64 2, .int .u8 d0, .int .u8 d1, .int .u8 0, .int .u8 0, .int .u8 0, .int .u8 0, .int .u8 0, .int .u8 0] 67))
    clear hb KF KR KV B
    have L6 : Aside0 (w.heap.size + 1 < b4) := L5
    obtain ⟨x0, x1, x2, x3, x4, x5, x6, x7, x8, x9, x10, x11⟩ := cells12 K5.out
    obtain ⟨y0, y1, y2, y3, y4, y5, y6, y7, y8, y9, y10, y11⟩ := cells12 nF.out
    have hA := eqA
    go_wp2_with fail
    (with_reducible refine (RC.out _).mono ?_)
    rintro e Wb ⟨rfl, hb⟩
    have KR := Aside0.mk (blk_below nR.out hb)
    have KV := Aside0.mk (blk_below nV.out hb)
    have B := Aside0.mk (below_step nB.out hb)
    clear hb nF nR nV nB K5 hA x0 x1 x2 x3 x4 x5 x6 x7 x8 x9 x10 x11 y0 y1 y2 y3 y4 y5 y6 y7 y8 y9 y10 y11
    obtain ⟨g0, g1, g2, g3⟩ := wcells4 KV.out
    obtain ⟨h0, h1, h2, h3⟩ := wcells4 KR.out
    obtain ⟨f0, f1, f2, f3⟩ := frozen4 KR.out
    go_wp2
    (try simp only [Exit.inBlock, Exit.then])
    refine bodyPost_ret (results_ct rfl _ _ (w.heap.size + 1) 71 #[.bool false, .int .i64 1, .int .i64 rd, .int .i64 0] (0, 0) _ rfl (set4_blk _ _ _ _ KR.out) Try.underlying71 rfl (by kernel_rfl)) rfl ?_
    exact ⟨rfl, set4_below _ _ _ _ B.out (by omega)⟩
set_option maxHeartbeats 8000000 in
set_option maxRecDepth 100000 in
theorem Of8 (rd tm : Int) (r0 : 0 ≤ rd) (r1 : rd < 65536) (t0 : 0 ≤ tm) (t1 : tm < 281474976710656) (d0 d1 d2 d3 d4 d5 d6 d7 : Int) (h2 : byteL rd 2 = [d0, d1]) (h6 : byteL tm 6 = [d2, d3, d4, d5, d6, d7]) (w : World) : Calls Try.prog 27 #[.agg #[.bool false, .int .u32 33, .bool false, .int .i64 8, .int .u8 d0, .int .u8 d1, .int .u8 d2, .int .u8 d3, .int .u8 d4, .int .u8 d5, .int .u8 d6, .int .u8 d7]] w fun e w' => e = .returned (.tuple #[.agg #[.bool true, .int .i64 1, .int .i64 rd, .int .i64 tm], .bool true]) ∧ Below w.heap.size w w' := by
  have hu64 := Try.underlying64
  have hu65 := Try.underlying65
  have hu67 := Try.underlying67
  have hu71 := Try.underlying71
  have w1 : IntKind.i64.wrap 1 = 1 := by decide +kernel
  have an : Go.bits .and .u32 33 32 = 32 := by decide +kernel
  have NC : Aside0 (∀ W : World, W.heap[w.heap.size]? = some (.cells #[.bool false, .int .u32 33, .bool false, .int .i64 8, .int .u8 d0, .int .u8 d1, .int .u8 d2, .int .u8 d3, .int .u8 d4, .int .u8 d5, .int .u8 d6, .int .u8 d7] 67 (0, 0)) → Calls Try.prog 63 #[.slice (some ⟨w.heap.size, 4, none⟩) 2 8] W fun e W' => e = .returned (.int .i64 rd) ∧ Below W.heap.size W W') := ⟨fun W h => number63 rd r0 r1 (some ⟨w.heap.size, 4, none⟩) 8 W (by rw [h2]; exact C_blk h 4 2 [d0, d1] rfl (by decide) (fun j x hj => by
    match j, hj with
    | 0, hj => cases hj; rfl
    | 1, hj => cases hj; rfl
    | j + 2, hj => cases hj))⟩
  have FC := Aside0.mk (fun w => Frame8 rd tm r0 r1 t0 t1 d0 d1 d2 d3 d4 d5 d6 d7 h2 h6 w)
  have TN : Aside0 (∀ W : World, W.heap[w.heap.size]? = some (.cells #[.bool false, .int .u32 33, .bool false, .int .i64 8, .int .u8 d0, .int .u8 d1, .int .u8 d2, .int .u8 d3, .int .u8 d4, .int .u8 d5, .int .u8 d6, .int .u8 d7] 67 (0, 0)) → Calls Try.prog 64 #[.slice (some ⟨w.heap.size, 6, none⟩) 6 6] W fun e W' => e = .returned (.int .i64 tm) ∧ Below W.heap.size W W') := ⟨fun W h => number64 tm t0 t1 (some ⟨w.heap.size, 6, none⟩) 6 W (by rw [h6]; exact C_blk h 6 6 [d2, d3, d4, d5, d6, d7] rfl (by decide) (fun j x hj => by
    match j, hj with
    | 0, hj => cases hj; rfl
    | 1, hj => cases hj; rfl
    | 2, hj => cases hj; rfl
    | 3, hj => cases hj; rfl
    | 4, hj => cases hj; rfl
    | 5, hj => cases hj; rfl
    | j + 6, hj => cases hj))⟩
  have RC := Aside0.mk (fun w => fRight8 33 d0 d1 d2 d3 d4 d5 d6 d7 (by decide) (by decide) w)
  clear r0 r1 h2 t0 t1 h6
  have KF := Aside0.mk (blk_alloc (blk_new w (.cells #[.bool false, .int .u32 33, .bool false, .int .i64 8, .int .u8 d0, .int .u8 d1, .int .u8 d2, .int .u8 d3, .int .u8 d4, .int .u8 d5, .int .u8 d6, .int .u8 d7] 67)) (.cells #[.bool false, .int .i64 0, .int .i64 0, .int .i64 0] 71))
  have KR := Aside0.mk (blk_new (w.alloc (.cells #[.bool false, .int .u32 33, .bool false, .int .i64 8, .int .u8 d0, .int .u8 d1, .int .u8 d2, .int .u8 d3, .int .u8 d4, .int .u8 d5, .int .u8 d6, .int .u8 d7] 67)) (.cells #[.bool false, .int .i64 0, .int .i64 0, .int .i64 0] 71))
  have B := Aside0.mk (below_alloc (below_alloc (Below.refl w.heap.size w) (.cells #[.bool false, .int .u32 33, .bool false, .int .i64 8, .int .u8 d0, .int .u8 d1, .int .u8 d2, .int .u8 d3, .int .u8 d4, .int .u8 d5, .int .u8 d6, .int .u8 d7] 67)) (.cells #[.bool false, .int .i64 0, .int .i64 0, .int .i64 0] 71))
  have hsz : (w.alloc (.cells #[.bool false, .int .u32 33, .bool false, .int .i64 8, .int .u8 d0, .int .u8 d1, .int .u8 d2, .int .u8 d3, .int .u8 d4, .int .u8 d5, .int .u8 d6, .int .u8 d7] 67)).heap.size = w.heap.size + 1 := by simp
  rw [hsz] at KR
  clear hsz
  go_enter Try.func27, Try.ntmps27
  go_wp2_with fail
  generalize (w.alloc (.cells #[.bool false, .int .u32 33, .bool false, .int .i64 8, .int .u8 d0, .int .u8 d1, .int .u8 d2, .int .u8 d3, .int .u8 d4, .int .u8 d5, .int .u8 d6, .int .u8 d7] 67)).alloc (.cells #[.bool false, .int .i64 0, .int .i64 0, .int .i64 0] 71) = W0 at KF KR B ⊢
  refine wp_region_held_drew (S := (fun w' : World => w'.cell? ⟨w.heap.size, 1, none⟩ = some (.int .u32 33))) (by kernel_rfl) ((blk_cell KF.out 1).trans rfl) (fun hS0 => ?_)
  refine wpAnyH_take (i := 0) (oi := ⟨some 7, _, _, _, _, _⟩) (v := (.pointer (some ⟨w.heap.size, 0, none⟩))) rfl (by kernel_rfl) (by kernel_rfl) (by kernel_rfl) (fun _ _ _ h => h) (Or.inl ⟨by rfl, fun w hSw => by (try dsimp only at hSw); go_simp⟩) (by assumption) ?_
  try simp only [Act.put, List.setIfInBounds_toArray, List.set_cons_zero, List.set_cons_succ]
  refine wpAnyH_take (i := 1) (oi := ⟨some 8, _, _, _, _, _⟩) (v := (.pointer (some ⟨w.heap.size, 1, none⟩))) rfl (by kernel_rfl) (by kernel_rfl) (by kernel_rfl) (fun _ _ _ h => h) (Or.inl ⟨by rfl, fun w hSw => by (try dsimp only at hSw); go_simp⟩) (by assumption) ?_
  try simp only [Act.put, List.setIfInBounds_toArray, List.set_cons_zero, List.set_cons_succ]
  refine wpAnyH_take (i := 2) (oi := ⟨some 9, _, _, _, _, _⟩) (v := (.int .u32 33)) rfl (by kernel_rfl) (by kernel_rfl) (by kernel_rfl) (fun _ _ _ h => h) (Or.inl ⟨by rfl, fun w hSw => by (try dsimp only at hSw); go_simp⟩) (by assumption) ?_
  try simp only [Act.put, List.setIfInBounds_toArray, List.set_cons_zero, List.set_cons_succ]
  refine wpAnyH_take (i := 3) (oi := ⟨some 10, _, _, _, _, _⟩) (v := (.int .u32 32)) rfl (by kernel_rfl) (by kernel_rfl) (by kernel_rfl) (fun _ _ _ h => h) (Or.inl ⟨by rfl, fun w hSw => by (try dsimp only at hSw); go_simp⟩) (by assumption) ?_
  try simp only [Act.put, List.setIfInBounds_toArray, List.set_cons_zero, List.set_cons_succ]
  refine wpAnyH_take (i := 4) (oi := ⟨some 11, _, _, _, _, _⟩) (v := (.bool true)) rfl (by kernel_rfl) (by kernel_rfl) (by kernel_rfl) (fun _ _ _ h => h) (Or.inl ⟨by rfl, fun w hSw => by (try dsimp only at hSw); go_simp⟩) (by assumption) ?_
  try simp only [Act.put, List.setIfInBounds_toArray, List.set_cons_zero, List.set_cons_succ]
  refine wpAnyH_take (i := 5) (oi := ⟨some 12, _, _, _, _, _⟩) (v := (.pointer (some ⟨w.heap.size, 0, none⟩))) rfl (by kernel_rfl) (by kernel_rfl) (by kernel_rfl) (fun _ _ _ h => h) (Or.inl ⟨by rfl, fun w hSw => by (try dsimp only at hSw); go_simp⟩) (by assumption) ?_
  try simp only [Act.put, List.setIfInBounds_toArray, List.set_cons_zero, List.set_cons_succ]
  refine wpAnyH_take (i := 6) (oi := ⟨some 13, _, _, _, _, _⟩) (v := (.pointer (some ⟨w.heap.size, 1, none⟩))) rfl (by kernel_rfl) (by kernel_rfl) (by kernel_rfl) (fun _ _ _ h => h) (Or.inl ⟨by rfl, fun w hSw => by (try dsimp only at hSw); go_simp⟩) (by assumption) ?_
  try simp only [Act.put, List.setIfInBounds_toArray, List.set_cons_zero, List.set_cons_succ]
  refine wpAnyH_take (i := 7) (oi := ⟨some 14, _, _, _, _, _⟩) (v := (.int .u32 33)) rfl (by kernel_rfl) (by kernel_rfl) (by kernel_rfl) (fun _ _ _ h => h) (Or.inl ⟨by rfl, fun w hSw => by (try dsimp only at hSw); go_simp⟩) (by assumption) ?_
  try simp only [Act.put, List.setIfInBounds_toArray, List.set_cons_zero, List.set_cons_succ]
  refine wpAnyH_take (i := 8) (oi := ⟨some 15, _, _, _, _, _⟩) (v := (.int .u32 1)) rfl (by kernel_rfl) (by kernel_rfl) (by kernel_rfl) (fun _ _ _ h => h) (Or.inl ⟨by rfl, fun w hSw => by (try dsimp only at hSw); go_simp⟩) (by assumption) ?_
  try simp only [Act.put, List.setIfInBounds_toArray, List.set_cons_zero, List.set_cons_succ]
  refine wpAnyH_take (i := 9) (oi := ⟨some 16, _, _, _, _, _⟩) (v := (.int .i64 1)) rfl (by kernel_rfl) (by kernel_rfl) (by kernel_rfl) (fun _ _ _ h => h) (Or.inl ⟨by rfl, fun w hSw => by (try dsimp only at hSw); go_simp⟩) (by assumption) ?_
  try simp only [Act.put, List.setIfInBounds_toArray, List.set_cons_zero, List.set_cons_succ]
  refine wpAnyH_take (i := 10) (oi := ⟨some 17, _, _, _, _, _⟩) (v := (.pointer (some ⟨w.heap.size, 4, none⟩))) rfl (by kernel_rfl) (by kernel_rfl) (by kernel_rfl) (fun _ _ _ h => h) (Or.inl ⟨by rfl, fun w hSw => by (try dsimp only at hSw); go_simp⟩) (by assumption) ?_
  try simp only [Act.put, List.setIfInBounds_toArray, List.set_cons_zero, List.set_cons_succ]
  refine wpAnyH_take (i := 11) (oi := ⟨some 18, _, _, _, _, _⟩) (v := (.slice (some ⟨w.heap.size, 4, none⟩) 2 8)) rfl (by kernel_rfl) (by kernel_rfl) (by kernel_rfl) (fun _ _ _ h => h) (Or.inl ⟨by rfl, fun w hSw => by (try dsimp only at hSw); go_simp⟩) (by assumption) ?_
  try simp only [Act.put, List.setIfInBounds_toArray, List.set_cons_zero, List.set_cons_succ]
  refine wpAnyH_ready (rs := [12, 14]) (by kernel_rfl) (by simp) ?_
  refine AllReadyH.cons (o := ⟨some 19, _, _, _, _, _⟩) rfl (fun K hK => ?_) (AllReadyH.cons (o := ⟨some 4, _, _, _, _, _⟩) rfl (fun K hK => ?_) AllReadyH.nil)
  · go_simp
    have nF := Aside0.mk (blk_drew KF.out)
    have nR := Aside0.mk (blk_drew KR.out)
    have nB := Aside0.mk (below_step B.out (below_drew1 (Below.refl _ _)))
    clear KF KR B
    have KF := nF
    have KR := nR
    have B := nB
    clear nF nR nB
    generalize W0.drew = W0d at KF KR B ⊢
    go_at_call 63
    (with_reducible refine (NC.out _ KF.out).mono ?_); rintro e W5 ⟨rfl, hb⟩; have nF := Aside0.mk (blk_below KF.out hb); have nR := Aside0.mk (blk_below KR.out hb); have nB := Aside0.mk (below_step B.out hb); clear hb KF KR B; have KF := nF; have KR := nR; have B := nB; clear nF nR nB
    dsimp only
    refine hK.out _ _ ((blk_cell KF.out 1).trans rfl) (fun hS12 => ?_)
    clear hK K
    try simp only [Act.put, List.setIfInBounds_toArray, List.set_cons_zero, List.set_cons_succ]
    refine wpAnyH_take (i := 13) (oi := ⟨some 20, _, _, _, _, _⟩) (v := (.agg #[.bool true, .int .i64 1, .int .i64 rd, .int .i64 0])) rfl (by kernel_rfl) (by kernel_rfl) (by kernel_rfl) (fun _ _ _ h => h) (Or.inl ⟨by rfl, fun w hSw => by (try dsimp only at hSw); go_simp⟩) (by assumption) ?_
    try simp only [Act.put, List.setIfInBounds_toArray, List.set_cons_zero, List.set_cons_succ]
    refine wpAnyH_ready (rs := [14]) (by kernel_rfl) (by simp) ?_
    refine AllReadyH.cons (o := ⟨some 4, _, _, _, _, _⟩) rfl (fun K hK => ?_) AllReadyH.nil
    go_simp
    have KV := Aside0.mk (blk_new W5 (.cells #[.bool false, .int .i64 0, .int .i64 0, .int .i64 0] 71))
    have nF := Aside0.mk (blk_alloc KF.out (.cells #[.bool false, .int .i64 0, .int .i64 0, .int .i64 0] 71))
    have nR := Aside0.mk (blk_alloc KR.out (.cells #[.bool false, .int .i64 0, .int .i64 0, .int .i64 0] 71))
    have L5 : Aside0 (w.heap.size + 1 < W5.heap.size) := ⟨blk_lt KR.out⟩
    have nB := Aside0.mk (below_alloc B.out (.cells #[.bool false, .int .i64 0, .int .i64 0, .int .i64 0] 71))
    clear KF KR B
    have KF := nF
    have KR := nR
    have B := nB
    clear nF nR nB
    refine hK.out _ _ ((blk_cell KF.out 1).trans rfl) (fun hS14 => ?_)
    clear hK K
    try simp only [Act.put, List.setIfInBounds_toArray, List.set_cons_zero, List.set_cons_succ]
    generalize W5.alloc (.cells #[.bool false, .int .i64 0, .int .i64 0, .int .i64 0] 71) = W6 at KV KF KR B hS14 ⊢
    generalize W5.heap.size = b4 at KV L5 ⊢
    obtain ⟨g0, g1, g2, g3⟩ := wcells4 KV.out
    obtain ⟨f0, f1, f2, f3⟩ := frozen4 KV.out
    refine wpAnyH_ready (rs := [15]) (by kernel_rfl) (by simp) ?_
    refine AllReadyH.cons (o := ⟨none, _, _, _, _, _⟩) rfl (fun K hK => ?_) AllReadyH.nil
    go_simp
    have nF := Aside0.mk (set4_far (.bool true) (.int .i64 1) (.int .i64 rd) (.int .i64 0) KF.out (show w.heap.size ≠ b4 by have := L5.out; omega))
    have nR := Aside0.mk (set4_far (.bool true) (.int .i64 1) (.int .i64 rd) (.int .i64 0) KR.out (show w.heap.size + 1 ≠ b4 by have := L5.out; omega))
    have nV := Aside0.mk (set4_blk (.bool true) (.int .i64 1) (.int .i64 rd) (.int .i64 0) KV.out)
    have nB := Aside0.mk (set4_below (.bool true) (.int .i64 1) (.int .i64 rd) (.int .i64 0) B.out (show w.heap.size ≤ b4 by have := L5.out; omega))
    refine hK.out _ _ ((blk_cell nF.out 1).trans rfl) (fun hS15 => ?_)
    clear hK K g0 g1 g2 g3 f0 f1 f2 f3 KF KR KV B
    have KF := nF
    have KR := nR
    have KV := nV
    have B := nB
    clear nF nR nV nB hS15 hS14 hS12 hS0
    try simp only [Act.put, List.setIfInBounds_toArray, List.set_cons_zero, List.set_cons_succ]
    refine wpAnyH_done (by kernel_rfl) ?_ _
    simp only [set4] at KF KR KV B
    generalize (((W6.setCell ⟨b4, 0, none⟩ (.bool true)).setCell ⟨b4, 1, none⟩ (.int .i64 1)).setCell ⟨b4, 2, none⟩ (.int .i64 rd)).setCell ⟨b4, 3, none⟩ (.int .i64 0) = W7 at KF KR KV B ⊢
    obtain ⟨g0, g1, g2, g3⟩ := wcells4 KV.out
    have TC : Aside0 (Calls Try.prog 64 #[.slice (some ⟨w.heap.size, 6, none⟩) 6 6] W7 fun e W' => e = .returned (.int .i64 tm) ∧ Below W7.heap.size W7 W') := ⟨TN.out W7 KF.out⟩
    go_wp2_with fail
    (with_reducible refine TC.out.mono ?_)
    rintro e W8 ⟨rfl, hb⟩
    have nF := Aside0.mk (blk_below KF.out hb)
    have nR := Aside0.mk (blk_below KR.out hb)
    have nV := Aside0.mk (blk_below KV.out hb)
    have nB := Aside0.mk (below_step B.out hb)
    clear hb KF KR KV B g0 g1 g2 g3 TC
    obtain ⟨g0, g1, g2, g3⟩ := wcells4 nV.out
    obtain ⟨f0, f1, f2, f3⟩ := frozen4 nV.out
    have KF := Aside0.mk (blk_far nF.out (p := ⟨b4, 3, none⟩) (show w.heap.size ≠ b4 by have := L5.out; omega) (.int .i64 tm))
    have KR := Aside0.mk (blk_far nR.out (p := ⟨b4, 3, none⟩) (show w.heap.size + 1 ≠ b4 by have := L5.out; omega) (.int .i64 tm))
    have KV := Aside0.mk (blk_put (cs' := #[.bool true, .int .i64 1, .int .i64 rd, .int .i64 tm]) nV.out 3 (.int .i64 tm) rfl)
    have B := Aside0.mk (nB.out.setCell (p := ⟨b4, 3, none⟩) (show w.heap.size ≤ b4 by have := L5.out; omega) (.int .i64 tm))
    obtain ⟨h0, h1, h2, h3⟩ := wcells4 KV.out
    go_wp2_with fail
    clear g0 g1 g2 g3 f0 f1 f2 f3 nF nR nV nB h0 h1 h2 h3
    generalize W8.setCell ⟨b4, 3, none⟩ (.int .i64 tm) = W9 at KF KR KV B ⊢
    (with_reducible refine (FC.out _).mono ?_)
    rintro e Wa ⟨rfl, hb⟩
    have nF := Aside0.mk (blk_alloc (blk_below KF.out hb) (.cells #[.bool false, .int .u32 33, .bool false, .int .i64 8, .int .u8 d0, .int .u8 d1, .int .u8 d2, .int .u8 d3, .int .u8 d4, .int .u8 d5, .int .u8 d6, .int .u8 d7] 67))
    have nR := Aside0.mk (blk_alloc (blk_below KR.out hb) (.cells #[.bool false, .int .u32 33, .bool false, .int .i64 8, .int .u8 d0, .int .u8 d1, .int .u8 d2, .int .u8 d3, .int .u8 d4, .int .u8 d5, .int .u8 d6, .int .u8 d7] 67))
    have nV := Aside0.mk (blk_alloc (blk_below KV.out hb) (.cells #[.bool false, .int .u32 33, .bool false, .int .i64 8, .int .u8 d0, .int .u8 d1, .int .u8 d2, .int .u8 d3, .int .u8 d4, .int .u8 d5, .int .u8 d6, .int .u8 d7] 67))
    have K5 := Aside0.mk (blk_new Wa (.cells #[.bool false, .int .u32 33, .bool false, .int .i64 8, .int .u8 d0, .int .u8 d1, .int .u8 d2, .int .u8 d3, .int .u8 d4, .int .u8 d5, .int .u8 d6, .int .u8 d7] 67))
    have nB := Aside0.mk (below_alloc (below_step B.out hb) (.cells #[.bool false, .int .u32 33, .bool false, .int .i64 8, .int .u8 d0, .int .u8 d1, .int .u8 d2, .int .u8 d3, .int .u8 d4, .int .u8 d5, .int .u8 d6, .int .u8 d7] 67))
    clear hb KF KR KV B
    have L6 : Aside0 (w.heap.size + 1 < b4) := L5
    obtain ⟨x0, x1, x2, x3, x4, x5, x6, x7, x8, x9, x10, x11⟩ := cells12 K5.out
    obtain ⟨y0, y1, y2, y3, y4, y5, y6, y7, y8, y9, y10, y11⟩ := cells12 nF.out
    have hA := eqA
    go_wp2_with fail
    (with_reducible refine (RC.out _).mono ?_)
    rintro e Wb ⟨rfl, hb⟩
    have KR := Aside0.mk (blk_below nR.out hb)
    have KV := Aside0.mk (blk_below nV.out hb)
    have B := Aside0.mk (below_step nB.out hb)
    clear hb nF nR nV nB K5 hA x0 x1 x2 x3 x4 x5 x6 x7 x8 x9 x10 x11 y0 y1 y2 y3 y4 y5 y6 y7 y8 y9 y10 y11
    obtain ⟨g0, g1, g2, g3⟩ := wcells4 KV.out
    obtain ⟨h0, h1, h2, h3⟩ := wcells4 KR.out
    obtain ⟨f0, f1, f2, f3⟩ := frozen4 KR.out
    go_wp2
    (try simp only [Exit.inBlock, Exit.then])
    refine bodyPost_ret (results_ct rfl _ _ (w.heap.size + 1) 71 #[.bool true, .int .i64 1, .int .i64 rd, .int .i64 tm] (0, 0) _ rfl (set4_blk _ _ _ _ KR.out) Try.underlying71 rfl (by kernel_rfl)) rfl ?_
    exact ⟨rfl, set4_below _ _ _ _ B.out (by omega)⟩
  · go_simp
    have KV := Aside0.mk (blk_new W0 (.cells #[.bool false, .int .i64 0, .int .i64 0, .int .i64 0] 71))
    have nF := Aside0.mk (blk_alloc KF.out (.cells #[.bool false, .int .i64 0, .int .i64 0, .int .i64 0] 71))
    have nR := Aside0.mk (blk_alloc KR.out (.cells #[.bool false, .int .i64 0, .int .i64 0, .int .i64 0] 71))
    have L5 : Aside0 (w.heap.size + 1 < W0.heap.size) := ⟨blk_lt KR.out⟩
    have nB := Aside0.mk (below_alloc B.out (.cells #[.bool false, .int .i64 0, .int .i64 0, .int .i64 0] 71))
    clear KF KR B
    have KF := nF
    have KR := nR
    have B := nB
    clear nF nR nB
    refine hK.out _ _ ((blk_cell KF.out 1).trans rfl) (fun hS14 => ?_)
    clear hK K
    try simp only [Act.put, List.setIfInBounds_toArray, List.set_cons_zero, List.set_cons_succ]
    generalize W0.alloc (.cells #[.bool false, .int .i64 0, .int .i64 0, .int .i64 0] 71) = W6 at KV KF KR B hS14 ⊢
    generalize W0.heap.size = b4 at KV L5 ⊢
    refine wpAnyH_ready (rs := [12]) (by kernel_rfl) (by simp) ?_
    refine AllReadyH.cons (o := ⟨some 19, _, _, _, _, _⟩) rfl (fun K hK => ?_) AllReadyH.nil
    go_simp
    have nF := Aside0.mk (blk_drew KF.out)
    have nR := Aside0.mk (blk_drew KR.out)
    have nB := Aside0.mk (below_step B.out (below_drew1 (Below.refl _ _)))
    have nV := Aside0.mk (blk_drew KV.out)
    clear KF KR B KV
    have KF := nF
    have KR := nR
    have B := nB
    have KV := nV
    clear nF nR nB nV
    generalize W6.drew = W6d at KF KR B KV ⊢
    go_at_call 63
    (with_reducible refine (NC.out _ KF.out).mono ?_); rintro e W5 ⟨rfl, hb⟩; have nF := Aside0.mk (blk_below KF.out hb); have nR := Aside0.mk (blk_below KR.out hb); have nB := Aside0.mk (below_step B.out hb); have nV := Aside0.mk (blk_below KV.out hb); clear hb KF KR B KV; have KF := nF; have KR := nR; have B := nB; have KV := nV; clear nF nR nB nV
    dsimp only
    refine hK.out _ _ ((blk_cell KF.out 1).trans rfl) (fun hS12 => ?_)
    clear hK K
    try simp only [Act.put, List.setIfInBounds_toArray, List.set_cons_zero, List.set_cons_succ]
    refine wpAnyH_take (i := 13) (oi := ⟨some 20, _, _, _, _, _⟩) (v := (.agg #[.bool true, .int .i64 1, .int .i64 rd, .int .i64 0])) rfl (by kernel_rfl) (by kernel_rfl) (by kernel_rfl) (fun _ _ _ h => h) (Or.inl ⟨by rfl, fun w hSw => by (try dsimp only at hSw); go_simp⟩) (by assumption) ?_
    try simp only [Act.put, List.setIfInBounds_toArray, List.set_cons_zero, List.set_cons_succ]
    obtain ⟨g0, g1, g2, g3⟩ := wcells4 KV.out
    obtain ⟨f0, f1, f2, f3⟩ := frozen4 KV.out
    refine wpAnyH_ready (rs := [15]) (by kernel_rfl) (by simp) ?_
    refine AllReadyH.cons (o := ⟨none, _, _, _, _, _⟩) rfl (fun K hK => ?_) AllReadyH.nil
    go_simp
    have nF := Aside0.mk (set4_far (.bool true) (.int .i64 1) (.int .i64 rd) (.int .i64 0) KF.out (show w.heap.size ≠ b4 by have := L5.out; omega))
    have nR := Aside0.mk (set4_far (.bool true) (.int .i64 1) (.int .i64 rd) (.int .i64 0) KR.out (show w.heap.size + 1 ≠ b4 by have := L5.out; omega))
    have nV := Aside0.mk (set4_blk (.bool true) (.int .i64 1) (.int .i64 rd) (.int .i64 0) KV.out)
    have nB := Aside0.mk (set4_below (.bool true) (.int .i64 1) (.int .i64 rd) (.int .i64 0) B.out (show w.heap.size ≤ b4 by have := L5.out; omega))
    refine hK.out _ _ ((blk_cell nF.out 1).trans rfl) (fun hS15 => ?_)
    clear hK K g0 g1 g2 g3 f0 f1 f2 f3 KF KR KV B
    have KF := nF
    have KR := nR
    have KV := nV
    have B := nB
    clear nF nR nV nB hS15 hS14 hS12 hS0
    try simp only [Act.put, List.setIfInBounds_toArray, List.set_cons_zero, List.set_cons_succ]
    refine wpAnyH_done (by kernel_rfl) ?_ _
    simp only [set4] at KF KR KV B
    generalize (((W5.setCell ⟨b4, 0, none⟩ (.bool true)).setCell ⟨b4, 1, none⟩ (.int .i64 1)).setCell ⟨b4, 2, none⟩ (.int .i64 rd)).setCell ⟨b4, 3, none⟩ (.int .i64 0) = W7 at KF KR KV B ⊢
    obtain ⟨g0, g1, g2, g3⟩ := wcells4 KV.out
    have TC : Aside0 (Calls Try.prog 64 #[.slice (some ⟨w.heap.size, 6, none⟩) 6 6] W7 fun e W' => e = .returned (.int .i64 tm) ∧ Below W7.heap.size W7 W') := ⟨TN.out W7 KF.out⟩
    go_wp2_with fail
    (with_reducible refine TC.out.mono ?_)
    rintro e W8 ⟨rfl, hb⟩
    have nF := Aside0.mk (blk_below KF.out hb)
    have nR := Aside0.mk (blk_below KR.out hb)
    have nV := Aside0.mk (blk_below KV.out hb)
    have nB := Aside0.mk (below_step B.out hb)
    clear hb KF KR KV B g0 g1 g2 g3 TC
    obtain ⟨g0, g1, g2, g3⟩ := wcells4 nV.out
    obtain ⟨f0, f1, f2, f3⟩ := frozen4 nV.out
    have KF := Aside0.mk (blk_far nF.out (p := ⟨b4, 3, none⟩) (show w.heap.size ≠ b4 by have := L5.out; omega) (.int .i64 tm))
    have KR := Aside0.mk (blk_far nR.out (p := ⟨b4, 3, none⟩) (show w.heap.size + 1 ≠ b4 by have := L5.out; omega) (.int .i64 tm))
    have KV := Aside0.mk (blk_put (cs' := #[.bool true, .int .i64 1, .int .i64 rd, .int .i64 tm]) nV.out 3 (.int .i64 tm) rfl)
    have B := Aside0.mk (nB.out.setCell (p := ⟨b4, 3, none⟩) (show w.heap.size ≤ b4 by have := L5.out; omega) (.int .i64 tm))
    obtain ⟨h0, h1, h2, h3⟩ := wcells4 KV.out
    go_wp2_with fail
    clear g0 g1 g2 g3 f0 f1 f2 f3 nF nR nV nB h0 h1 h2 h3
    generalize W8.setCell ⟨b4, 3, none⟩ (.int .i64 tm) = W9 at KF KR KV B ⊢
    (with_reducible refine (FC.out _).mono ?_)
    rintro e Wa ⟨rfl, hb⟩
    have nF := Aside0.mk (blk_alloc (blk_below KF.out hb) (.cells #[.bool false, .int .u32 33, .bool false, .int .i64 8, .int .u8 d0, .int .u8 d1, .int .u8 d2, .int .u8 d3, .int .u8 d4, .int .u8 d5, .int .u8 d6, .int .u8 d7] 67))
    have nR := Aside0.mk (blk_alloc (blk_below KR.out hb) (.cells #[.bool false, .int .u32 33, .bool false, .int .i64 8, .int .u8 d0, .int .u8 d1, .int .u8 d2, .int .u8 d3, .int .u8 d4, .int .u8 d5, .int .u8 d6, .int .u8 d7] 67))
    have nV := Aside0.mk (blk_alloc (blk_below KV.out hb) (.cells #[.bool false, .int .u32 33, .bool false, .int .i64 8, .int .u8 d0, .int .u8 d1, .int .u8 d2, .int .u8 d3, .int .u8 d4, .int .u8 d5, .int .u8 d6, .int .u8 d7] 67))
    have K5 := Aside0.mk (blk_new Wa (.cells #[.bool false, .int .u32 33, .bool false, .int .i64 8, .int .u8 d0, .int .u8 d1, .int .u8 d2, .int .u8 d3, .int .u8 d4, .int .u8 d5, .int .u8 d6, .int .u8 d7] 67))
    have nB := Aside0.mk (below_alloc (below_step B.out hb) (.cells #[.bool false, .int .u32 33, .bool false, .int .i64 8, .int .u8 d0, .int .u8 d1, .int .u8 d2, .int .u8 d3, .int .u8 d4, .int .u8 d5, .int .u8 d6, .int .u8 d7] 67))
    clear hb KF KR KV B
    have L6 : Aside0 (w.heap.size + 1 < b4) := L5
    obtain ⟨x0, x1, x2, x3, x4, x5, x6, x7, x8, x9, x10, x11⟩ := cells12 K5.out
    obtain ⟨y0, y1, y2, y3, y4, y5, y6, y7, y8, y9, y10, y11⟩ := cells12 nF.out
    have hA := eqA
    go_wp2_with fail
    (with_reducible refine (RC.out _).mono ?_)
    rintro e Wb ⟨rfl, hb⟩
    have KR := Aside0.mk (blk_below nR.out hb)
    have KV := Aside0.mk (blk_below nV.out hb)
    have B := Aside0.mk (below_step nB.out hb)
    clear hb nF nR nV nB K5 hA x0 x1 x2 x3 x4 x5 x6 x7 x8 x9 x10 x11 y0 y1 y2 y3 y4 y5 y6 y7 y8 y9 y10 y11
    obtain ⟨g0, g1, g2, g3⟩ := wcells4 KV.out
    obtain ⟨h0, h1, h2, h3⟩ := wcells4 KR.out
    obtain ⟨f0, f1, f2, f3⟩ := frozen4 KR.out
    go_wp2
    (try simp only [Exit.inBlock, Exit.then])
    refine bodyPost_ret (results_ct rfl _ _ (w.heap.size + 1) 71 #[.bool true, .int .i64 1, .int .i64 rd, .int .i64 tm] (0, 0) _ rfl (set4_blk _ _ _ _ KR.out) Try.underlying71 rfl (by kernel_rfl)) rfl ?_
    exact ⟨rfl, set4_below _ _ _ _ B.out (by omega)⟩
end Go.Proofs.Ytgnkmpgnlpjglaa.P
