/- A node's tick by the program. Conditions: the ranges that each lemma names. -/
import Derived.Test.YtcgkbbfnlbjblaaRankLib
namespace Go.Proofs.Ytcgkbbfnlbjblaa.P
open Go.RowKit Go.Proofs.YtcgkbbfnlbjblaaW.PrintWords Go.Proofs.YtcgkbbfnlbjblaaW.PrintLast Go.Proofs.YtcgkbbfnlbjblaaW.PrintMore
set_option linter.unusedVariables false
set_option linter.unusedSimpArgs false
theorem NdAt.cells {w : World} {g : Nat} {b s p r : Int} {n : Nd} (h : NdAt w g b s p r n) : w.cell? ⟨g, 0, none⟩ = some (.int .i64 b) ∧ w.cell? ⟨g, 1, none⟩ = some (.int .i64 s) ∧ w.cell? ⟨g, 2, none⟩ = some (.int .i64 p) ∧ w.cell? ⟨g, 3, none⟩ = some (.int .i64 r) ∧ w.cell? ⟨g, 4, none⟩ = some (.bool n.m) ∧ w.cell? ⟨g, 5, none⟩ = some (.int .i64 n.i) ∧ w.cell? ⟨g, 6, none⟩ = some (.int .i64 n.q) :=
  ⟨(blk_cell h 0).trans rfl, (blk_cell h 1).trans rfl, (blk_cell h 2).trans rfl, (blk_cell h 3).trans rfl, (blk_cell h 4).trans rfl, (blk_cell h 5).trans rfl, (blk_cell h 6).trans rfl⟩
theorem NdAt.frz {w : World} {g : Nat} {b s p r : Int} {n : Nd} (h : NdAt w g b s p r n) : w.frozen? ⟨g, 4, none⟩ = false ∧ w.frozen? ⟨g, 5, none⟩ = false ∧ w.frozen? ⟨g, 6, none⟩ = false :=
  ⟨blk_frozen h 4, blk_frozen h 5, blk_frozen h 6⟩
theorem NdAt.setm {w : World} {g : Nat} {b s p r : Int} {n : Nd} (h : NdAt w g b s p r n) (x : Bool) : NdAt (w.setCell ⟨g, 4, none⟩ (.bool x)) g b s p r ⟨x, n.i, n.q⟩ := by
  have := blk_set h 4 (.bool x)
  simpa [NdAt] using this
theorem NdAt.seti {w : World} {g : Nat} {b s p r : Int} {n : Nd} (h : NdAt w g b s p r n) (x : Int) : NdAt (w.setCell ⟨g, 5, none⟩ (.int .i64 x)) g b s p r ⟨n.m, x, n.q⟩ := by
  have := blk_set h 5 (.int .i64 x)
  simpa [NdAt] using this
theorem NdAt.setq {w : World} {g : Nat} {b s p r : Int} {n : Nd} (h : NdAt w g b s p r n) (x : Int) : NdAt (w.setCell ⟨g, 6, none⟩ (.int .i64 x)) g b s p r ⟨n.m, n.i, x⟩ := by
  have := blk_set h 6 (.int .i64 x)
  simpa [NdAt] using this
theorem Ch.drew {S : Nat → Prop} {a b : World} (h : Ch S a b) : Ch S a b.drew := h.drewN 1
theorem Ch.setg {a b : World} {g j : Nat} (h : Ch (fun k => k = g) a b) (u : Value) : Ch (fun k => k = g) a (b.setCell ⟨g, j, none⟩ u) := h.set (.inl rfl) u
theorem Rise_calls (g : Nat) (b s p r : Int) (n : Nd) (w : World) (h : NdAt w g b s p r n) :
    Calls Try.prog 42 #[.pointer (some ⟨g, 0, none⟩)] w fun e w' => e = .returned (.bool true) ∧ NdAt w' g b s p r ⟨true, 0, 0⟩ ∧ Ch (fun k => k = g) w w' := by
  have N0 := Aside0.mk h
  obtain ⟨c0, c1, c2, c3, c4, c5, c6⟩ := NdAt.cells h
  obtain ⟨f4, f5, f6⟩ := NdAt.frz h
  clear h
  go_enter Try.func42, Try.ntmps42
  go_wp2
  go_ret
  exact ⟨rfl, ((N0.out.setm true).seti 0).setq 0, (((Ch.refl _ _).setg _).setg _).setg _⟩
theorem Tick_hears (g : Nat) (b s p r : Int) (n : Nd) (A : Option Addr) (c : Nat) (zs : List Int) (w : World) (h : NdAt w g b s p r n) (hl : zs.length ≤ c) (hz : Kd.C (Kd.int .i64) w A zs.length zs) (ha : zs.any (betterB r) = true) :
    Calls Try.prog 18 #[.pointer (some ⟨g, 0, none⟩), .slice A zs.length c] w fun e w' => e = .returned (.bool false) ∧ NdAt w' g b s p r ⟨false, 0, n.q⟩ ∧ Ch (fun k => k = g) w w' := by
  have N0 := Aside0.mk h
  have HZ := Aside0.mk hz
  have HL := Aside0.mk hl
  have HA := Aside0.mk ha
  clear h hz hl ha
  go_enter Try.func18, Try.ntmps18
  go_wp2_with fail
  (with_reducible refine (ContainsFunc_calls g r A c zs _ HL.out HZ.out N0.out.cells.2.2.2.1).mono ?_); rintro e w1 ⟨rfl, ⟨m, rfl⟩⟩
  have N1 : Aside0 (NdAt (w.drewN m) g b s p r n) := ⟨N0.out⟩
  obtain ⟨c0, c1, c2, c3, c4, c5, c6⟩ := NdAt.cells N1.out
  obtain ⟨f4, f5, f6⟩ := NdAt.frz N1.out
  rw [HA.out]
  go_wp2_with fail
  go_ret
  exact ⟨rfl, (N1.out.setm false).seti 0, ((((Ch.refl _ _).drewN m).setg _).setg _)⟩
set_option maxHeartbeats 8000000 in
set_option maxRecDepth 100000 in
theorem Tick_waits (g : Nat) (b s p r wt : Int) (n : Nd) (A : Option Addr) (c : Nat) (zs : List Int) (w : World) (h : NdAt w g b s p r n) (hl : zs.length ≤ c) (hz : Kd.C (Kd.int .i64) w A zs.length zs) (ha : zs.any (betterB r) = false) (hm : n.m = false)
    (i0 : 0 ≤ n.i) (i1 : n.i < 4611686018427387904) (hw : rank_Wait.f b s p r = some wt) (hi : ¬ wt < n.i + 1) :
    Calls Try.prog 18 #[.pointer (some ⟨g, 0, none⟩), .slice A zs.length c] w fun e w' => e = .returned (.bool false) ∧ NdAt w' g b s p r ⟨false, n.i + 1, n.q⟩ ∧ Ch (fun k => k = g) w w' := by
  have N0 := Aside0.mk h
  have HZ := Aside0.mk hz
  have HL := Aside0.mk hl
  have HA := Aside0.mk ha
  have HW := Aside0.mk hw
  have ei := i64w (n.i + 1) (by omega) (by omega)
  have gi : decide (wt < n.i + 1) = false := decide_eq_false hi
  have hu23 := Try.underlying23
  clear h hz hl ha hw i0 i1 hi
  go_enter Try.func18, Try.ntmps18
  go_wp2_with fail
  (with_reducible refine (ContainsFunc_calls g r A c zs _ HL.out HZ.out N0.out.cells.2.2.2.1).mono ?_); rintro e w1 ⟨rfl, ⟨m, rfl⟩⟩
  have N1 : Aside0 (NdAt (w.drewN m) g b s p r n) := ⟨N0.out⟩
  obtain ⟨c0, c1, c2, c3, c4, c5, c6⟩ := NdAt.cells N1.out
  obtain ⟨f4, f5, f6⟩ := NdAt.frz N1.out
  rw [hm] at c4
  rw [HA.out]
  go_upto_region 8 with (fail)
  have NX : Aside0 (NdAt ((w.drewN m).setCell ⟨g, 5, none⟩ (.int .i64 (n.i + 1))) g b s p r ⟨false, n.i + 1, n.q⟩) := ⟨by have := N1.out.seti (n.i + 1); rw [hm] at this; exact this⟩
  have CX : Aside0 (Ch (fun k => k = g) w ((w.drewN m).setCell ⟨g, 5, none⟩ (.int .i64 (n.i + 1)))) := ⟨((Ch.refl _ _).drewN m).setg _⟩
  clear c0 c1 c2 c3 c4 c5 c6 f4 f5 f6 N1
  obtain ⟨c0, c1, c2, c3, c4, c5, c6⟩ := NdAt.cells NX.out
  refine wp_region_held_drew (S := (fun w' : World => w'.cell? ⟨g, 0, none⟩ = some (.int .i64 b) ∧ w'.cell? ⟨g, 1, none⟩ = some (.int .i64 s) ∧ w'.cell? ⟨g, 2, none⟩ = some (.int .i64 p) ∧ w'.cell? ⟨g, 3, none⟩ = some (.int .i64 r))) (by kernel_rfl) ⟨c0, c1, c2, c3⟩ (fun hS0 => ?_)
  refine wpAnyH_take (i := 0) (oi := ⟨some 32, _, _, _, _, _⟩) (v := (.pointer (some ⟨g, 0, none⟩))) rfl (by kernel_rfl) (by kernel_rfl) (by kernel_rfl) (fun _ _ _ h => h) (Or.inl ⟨by rfl, fun w hSw => by (try dsimp only at hSw); go_simp⟩) (by assumption) ?_
  try simp only [Act.put, List.setIfInBounds_toArray, List.set_cons_zero, List.set_cons_succ]
  refine wpAnyH_take (i := 1) (oi := ⟨some 33, _, _, _, _, _⟩) (v := (.pointer (some ⟨g, 0, none⟩))) rfl (by kernel_rfl) (by kernel_rfl) (by kernel_rfl) (fun _ _ _ h => h) (Or.inl ⟨by rfl, fun w hSw => by (try dsimp only at hSw); go_simp⟩) (by assumption) ?_
  try simp only [Act.put, List.setIfInBounds_toArray, List.set_cons_zero, List.set_cons_succ]
  refine wpAnyH_take (i := 2) (oi := ⟨some 34, _, _, _, _, _⟩) (v := (.pointer (some ⟨g, 5, none⟩))) rfl (by kernel_rfl) (by kernel_rfl) (by kernel_rfl) (fun _ _ _ h => h) (Or.inl ⟨by rfl, fun w hSw => by (try dsimp only at hSw); go_simp⟩) (by assumption) ?_
  try simp only [Act.put, List.setIfInBounds_toArray, List.set_cons_zero, List.set_cons_succ]
  refine wpAnyH_take (i := 4) (oi := ⟨some 36, _, _, _, _, _⟩) (v := (.pointer (some ⟨g, 0, none⟩))) rfl (by kernel_rfl) (by kernel_rfl) (by kernel_rfl) (fun _ _ _ h => h) (Or.inl ⟨by rfl, fun w hSw => by (try dsimp only at hSw); go_simp⟩) (by assumption) ?_
  try simp only [Act.put, List.setIfInBounds_toArray, List.set_cons_zero, List.set_cons_succ]
  refine wpAnyH_take (i := 5) (oi := ⟨some 37, _, _, _, _, _⟩) (v := (.pointer (some ⟨g, 0, none⟩))) rfl (by kernel_rfl) (by kernel_rfl) (by kernel_rfl) (fun _ _ _ h => h) (Or.inl ⟨by rfl, fun w hSw => by (try dsimp only at hSw); go_simp⟩) (by assumption) ?_
  try simp only [Act.put, List.setIfInBounds_toArray, List.set_cons_zero, List.set_cons_succ]
  refine wpAnyH_take (i := 6) (oi := ⟨some 38, _, _, _, _, _⟩) (v := (.pointer (some ⟨g, 0, none⟩))) rfl (by kernel_rfl) (by kernel_rfl) (by kernel_rfl) (fun _ _ _ h => h) (Or.inl ⟨by rfl, fun w hSw => by (try dsimp only at hSw); go_simp⟩) (by assumption) ?_
  try simp only [Act.put, List.setIfInBounds_toArray, List.set_cons_zero, List.set_cons_succ]
  refine wpAnyH_take (i := 7) (oi := ⟨some 39, _, _, _, _, _⟩) (v := (.agg #[.int .i64 b, .int .i64 s, .int .i64 p])) rfl (by kernel_rfl) (by kernel_rfl) (by kernel_rfl) (fun _ _ _ h => h) (Or.inl ⟨by rfl, fun w hSw => by (try dsimp only at hSw); go_simp⟩) (by assumption) ?_
  try simp only [Act.put, List.setIfInBounds_toArray, List.set_cons_zero, List.set_cons_succ]
  refine wpAnyH_take (i := 8) (oi := ⟨some 40, _, _, _, _, _⟩) (v := (.pointer (some ⟨g, 0, none⟩))) rfl (by kernel_rfl) (by kernel_rfl) (by kernel_rfl) (fun _ _ _ h => h) (Or.inl ⟨by rfl, fun w hSw => by (try dsimp only at hSw); go_simp⟩) (by assumption) ?_
  try simp only [Act.put, List.setIfInBounds_toArray, List.set_cons_zero, List.set_cons_succ]
  refine wpAnyH_take (i := 9) (oi := ⟨some 41, _, _, _, _, _⟩) (v := (.pointer (some ⟨g, 0, none⟩))) rfl (by kernel_rfl) (by kernel_rfl) (by kernel_rfl) (fun _ _ _ h => h) (Or.inl ⟨by rfl, fun w hSw => by (try dsimp only at hSw); go_simp⟩) (by assumption) ?_
  try simp only [Act.put, List.setIfInBounds_toArray, List.set_cons_zero, List.set_cons_succ]
  refine wpAnyH_take (i := 10) (oi := ⟨some 42, _, _, _, _, _⟩) (v := (.pointer (some ⟨g, 3, none⟩))) rfl (by kernel_rfl) (by kernel_rfl) (by kernel_rfl) (fun _ _ _ h => h) (Or.inl ⟨by rfl, fun w hSw => by (try dsimp only at hSw); go_simp⟩) (by assumption) ?_
  try simp only [Act.put, List.setIfInBounds_toArray, List.set_cons_zero, List.set_cons_succ]
  refine wpAnyH_take (i := 11) (oi := ⟨some 43, _, _, _, _, _⟩) (v := (.int .i64 r)) rfl (by kernel_rfl) (by kernel_rfl) (by kernel_rfl) (fun _ _ _ h => h) (Or.inl ⟨by rfl, fun w hSw => by (try dsimp only at hSw); go_simp⟩) (by assumption) ?_
  try simp only [Act.put, List.setIfInBounds_toArray, List.set_cons_zero, List.set_cons_succ]
  refine wpAnyH_ready (rs := [3, 12]) (by kernel_rfl) (by simp) ?_
  refine AllReadyH.cons (o := ⟨some 35, _, _, _, _, _⟩) rfl (fun K hK => ?_) (AllReadyH.cons (o := ⟨some 44, _, _, _, _, _⟩) rfl (fun K hK => ?_) AllReadyH.nil)
  · go_simp
    refine hK.out _ _ ⟨c0, c1, c2, c3⟩ (fun hS3 => ?_)
    clear hK K
    try simp only [Act.put, List.setIfInBounds_toArray, List.set_cons_zero, List.set_cons_succ]
    refine wpAnyH_ready (rs := [12]) (by kernel_rfl) (by simp) ?_
    refine AllReadyH.cons (o := ⟨some 44, _, _, _, _, _⟩) rfl (fun K hK => ?_) AllReadyH.nil
    go_simp
    go_at_call 12
    (with_reducible refine (rank_Wait.calls b s p r wt _ HW.out).mono ?_); rintro e w5 ⟨rfl, hb5⟩; have N5 : Aside0 (NdAt w5 g b s p r ⟨false, n.i + 1, n.q⟩) := ⟨blk_below (blk_drew NX.out) hb5⟩; have C5 : Aside0 (Ch (fun k => k = g) w w5) := ⟨CX.out.drew.step hb5⟩; obtain ⟨d0, d1, d2, d3, d4, d5, d6⟩ := N5.out.cells
    dsimp only
    refine hK.out _ _ ⟨d0, d1, d2, d3⟩ (fun hS12 => ?_)
    clear hK K
    try simp only [Act.put, List.setIfInBounds_toArray, List.set_cons_zero, List.set_cons_succ]
    refine wpAnyH_take (i := 13) (oi := ⟨some 45, _, _, _, _, _⟩) (v := (.bool false)) rfl (by kernel_rfl) (by kernel_rfl) (by kernel_rfl) (fun _ _ _ h => h) (Or.inl ⟨by rfl, fun w hSw => by (try dsimp only at hSw); go_simp⟩) (by assumption) ?_
    try simp only [Act.put, List.setIfInBounds_toArray, List.set_cons_zero, List.set_cons_succ]
    refine wpAnyH_take (i := 14) (oi := ⟨some 46, _, _, _, _, _⟩) (v := (.bool false)) rfl (by kernel_rfl) (by kernel_rfl) (by kernel_rfl) (fun _ _ _ h => h) (Or.inl ⟨by rfl, fun w hSw => by (try dsimp only at hSw); go_simp⟩) (by assumption) ?_
    try simp only [Act.put, List.setIfInBounds_toArray, List.set_cons_zero, List.set_cons_succ]
    refine wpAnyH_take (i := 15) (oi := ⟨some 47, _, _, _, _, _⟩) (v := undef) rfl (by kernel_rfl) (by kernel_rfl) (by kernel_rfl) (fun _ _ _ h => h) (Or.inr ⟨by rfl, rfl⟩) (by assumption) ?_
    try simp only [Act.put, List.setIfInBounds_toArray, List.set_cons_zero, List.set_cons_succ]
    refine wpAnyH_take (i := 16) (oi := ⟨some 48, _, _, _, _, _⟩) (v := undef) rfl (by kernel_rfl) (by kernel_rfl) (by kernel_rfl) (fun _ _ _ h => h) (Or.inr ⟨by rfl, rfl⟩) (by assumption) ?_
    try simp only [Act.put, List.setIfInBounds_toArray, List.set_cons_zero, List.set_cons_succ]
    refine wpAnyH_take (i := 17) (oi := ⟨some 49, _, _, _, _, _⟩) (v := (.bool false)) rfl (by kernel_rfl) (by kernel_rfl) (by kernel_rfl) (fun _ _ _ h => h) (Or.inl ⟨by rfl, fun w hSw => by (try dsimp only at hSw); go_simp⟩) (by assumption) ?_
    try simp only [Act.put, List.setIfInBounds_toArray, List.set_cons_zero, List.set_cons_succ]
    refine wpAnyH_take (i := 18) (oi := ⟨some 4, _, _, _, _, _⟩) (v := (.bool false)) rfl (by kernel_rfl) (by kernel_rfl) (by kernel_rfl) (fun _ _ _ h => h) (Or.inl ⟨by rfl, fun w hSw => by (try dsimp only at hSw); go_simp⟩) (by assumption) ?_
    try simp only [Act.put, List.setIfInBounds_toArray, List.set_cons_zero, List.set_cons_succ]
    refine wpAnyH_done (by kernel_rfl) ?_ _
    go_wp2
    go_ret
    exact ⟨rfl, N5.out, C5.out⟩
  · go_simp
    go_at_call 12
    (with_reducible refine (rank_Wait.calls b s p r wt _ HW.out).mono ?_); rintro e w5 ⟨rfl, hb5⟩; have N5 : Aside0 (NdAt w5 g b s p r ⟨false, n.i + 1, n.q⟩) := ⟨blk_below (blk_drew NX.out) hb5⟩; have C5 : Aside0 (Ch (fun k => k = g) w w5) := ⟨CX.out.drew.step hb5⟩; obtain ⟨d0, d1, d2, d3, d4, d5, d6⟩ := N5.out.cells
    dsimp only
    refine hK.out _ _ ⟨d0, d1, d2, d3⟩ (fun hS12 => ?_)
    clear hK K
    try simp only [Act.put, List.setIfInBounds_toArray, List.set_cons_zero, List.set_cons_succ]
    refine wpAnyH_ready (rs := [3]) (by kernel_rfl) (by simp) ?_
    refine AllReadyH.cons (o := ⟨some 35, _, _, _, _, _⟩) rfl (fun K hK => ?_) AllReadyH.nil
    go_simp
    refine hK.out _ _ ⟨d0, d1, d2, d3⟩ (fun hS3 => ?_)
    clear hK K
    try simp only [Act.put, List.setIfInBounds_toArray, List.set_cons_zero, List.set_cons_succ]
    refine wpAnyH_take (i := 13) (oi := ⟨some 45, _, _, _, _, _⟩) (v := (.bool false)) rfl (by kernel_rfl) (by kernel_rfl) (by kernel_rfl) (fun _ _ _ h => h) (Or.inl ⟨by rfl, fun w hSw => by (try dsimp only at hSw); go_simp⟩) (by assumption) ?_
    try simp only [Act.put, List.setIfInBounds_toArray, List.set_cons_zero, List.set_cons_succ]
    refine wpAnyH_take (i := 14) (oi := ⟨some 46, _, _, _, _, _⟩) (v := (.bool false)) rfl (by kernel_rfl) (by kernel_rfl) (by kernel_rfl) (fun _ _ _ h => h) (Or.inl ⟨by rfl, fun w hSw => by (try dsimp only at hSw); go_simp⟩) (by assumption) ?_
    try simp only [Act.put, List.setIfInBounds_toArray, List.set_cons_zero, List.set_cons_succ]
    refine wpAnyH_take (i := 15) (oi := ⟨some 47, _, _, _, _, _⟩) (v := undef) rfl (by kernel_rfl) (by kernel_rfl) (by kernel_rfl) (fun _ _ _ h => h) (Or.inr ⟨by rfl, rfl⟩) (by assumption) ?_
    try simp only [Act.put, List.setIfInBounds_toArray, List.set_cons_zero, List.set_cons_succ]
    refine wpAnyH_take (i := 16) (oi := ⟨some 48, _, _, _, _, _⟩) (v := undef) rfl (by kernel_rfl) (by kernel_rfl) (by kernel_rfl) (fun _ _ _ h => h) (Or.inr ⟨by rfl, rfl⟩) (by assumption) ?_
    try simp only [Act.put, List.setIfInBounds_toArray, List.set_cons_zero, List.set_cons_succ]
    refine wpAnyH_take (i := 17) (oi := ⟨some 49, _, _, _, _, _⟩) (v := (.bool false)) rfl (by kernel_rfl) (by kernel_rfl) (by kernel_rfl) (fun _ _ _ h => h) (Or.inl ⟨by rfl, fun w hSw => by (try dsimp only at hSw); go_simp⟩) (by assumption) ?_
    try simp only [Act.put, List.setIfInBounds_toArray, List.set_cons_zero, List.set_cons_succ]
    refine wpAnyH_take (i := 18) (oi := ⟨some 4, _, _, _, _, _⟩) (v := (.bool false)) rfl (by kernel_rfl) (by kernel_rfl) (by kernel_rfl) (fun _ _ _ h => h) (Or.inl ⟨by rfl, fun w hSw => by (try dsimp only at hSw); go_simp⟩) (by assumption) ?_
    try simp only [Act.put, List.setIfInBounds_toArray, List.set_cons_zero, List.set_cons_succ]
    refine wpAnyH_done (by kernel_rfl) ?_ _
    go_wp2
    go_ret
    exact ⟨rfl, N5.out, C5.out⟩
set_option maxHeartbeats 8000000 in
set_option maxRecDepth 100000 in
theorem Tick_rises (g : Nat) (b s p r wt : Int) (n : Nd) (A : Option Addr) (c : Nat) (zs : List Int) (w : World) (h : NdAt w g b s p r n) (hl : zs.length ≤ c) (hz : Kd.C (Kd.int .i64) w A zs.length zs) (ha : zs.any (betterB r) = false) (hm : n.m = false)
    (i0 : 0 ≤ n.i) (i1 : n.i < 4611686018427387904) (hw : rank_Wait.f b s p r = some wt) (hi : wt < n.i + 1) :
    Calls Try.prog 18 #[.pointer (some ⟨g, 0, none⟩), .slice A zs.length c] w fun e w' => e = .returned (.bool true) ∧ NdAt w' g b s p r ⟨true, 0, 0⟩ ∧ Ch (fun k => k = g) w w' := by
  have N0 := Aside0.mk h
  have HZ := Aside0.mk hz
  have HL := Aside0.mk hl
  have HA := Aside0.mk ha
  have HW := Aside0.mk hw
  have ei := i64w (n.i + 1) (by omega) (by omega)
  have gi : decide (wt < n.i + 1) = true := decide_eq_true hi
  have hu23 := Try.underlying23
  clear h hz hl ha hw i0 i1 hi
  go_enter Try.func18, Try.ntmps18
  go_wp2_with fail
  (with_reducible refine (ContainsFunc_calls g r A c zs _ HL.out HZ.out N0.out.cells.2.2.2.1).mono ?_); rintro e w1 ⟨rfl, ⟨m, rfl⟩⟩
  have N1 : Aside0 (NdAt (w.drewN m) g b s p r n) := ⟨N0.out⟩
  obtain ⟨c0, c1, c2, c3, c4, c5, c6⟩ := NdAt.cells N1.out
  obtain ⟨f4, f5, f6⟩ := NdAt.frz N1.out
  rw [hm] at c4
  rw [HA.out]
  go_upto_region 8 with (fail)
  have NX : Aside0 (NdAt ((w.drewN m).setCell ⟨g, 5, none⟩ (.int .i64 (n.i + 1))) g b s p r ⟨false, n.i + 1, n.q⟩) := ⟨by have := N1.out.seti (n.i + 1); rw [hm] at this; exact this⟩
  have CX : Aside0 (Ch (fun k => k = g) w ((w.drewN m).setCell ⟨g, 5, none⟩ (.int .i64 (n.i + 1)))) := ⟨((Ch.refl _ _).drewN m).setg _⟩
  clear c0 c1 c2 c3 c4 c5 c6 f4 f5 f6 N1
  obtain ⟨c0, c1, c2, c3, c4, c5, c6⟩ := NdAt.cells NX.out
  refine wp_region_held_drew (S := (fun w' : World => w'.cell? ⟨g, 0, none⟩ = some (.int .i64 b) ∧ w'.cell? ⟨g, 1, none⟩ = some (.int .i64 s) ∧ w'.cell? ⟨g, 2, none⟩ = some (.int .i64 p) ∧ w'.cell? ⟨g, 3, none⟩ = some (.int .i64 r))) (by kernel_rfl) ⟨c0, c1, c2, c3⟩ (fun hS0 => ?_)
  refine wpAnyH_take (i := 0) (oi := ⟨some 32, _, _, _, _, _⟩) (v := (.pointer (some ⟨g, 0, none⟩))) rfl (by kernel_rfl) (by kernel_rfl) (by kernel_rfl) (fun _ _ _ h => h) (Or.inl ⟨by rfl, fun w hSw => by (try dsimp only at hSw); go_simp⟩) (by assumption) ?_
  try simp only [Act.put, List.setIfInBounds_toArray, List.set_cons_zero, List.set_cons_succ]
  refine wpAnyH_take (i := 1) (oi := ⟨some 33, _, _, _, _, _⟩) (v := (.pointer (some ⟨g, 0, none⟩))) rfl (by kernel_rfl) (by kernel_rfl) (by kernel_rfl) (fun _ _ _ h => h) (Or.inl ⟨by rfl, fun w hSw => by (try dsimp only at hSw); go_simp⟩) (by assumption) ?_
  try simp only [Act.put, List.setIfInBounds_toArray, List.set_cons_zero, List.set_cons_succ]
  refine wpAnyH_take (i := 2) (oi := ⟨some 34, _, _, _, _, _⟩) (v := (.pointer (some ⟨g, 5, none⟩))) rfl (by kernel_rfl) (by kernel_rfl) (by kernel_rfl) (fun _ _ _ h => h) (Or.inl ⟨by rfl, fun w hSw => by (try dsimp only at hSw); go_simp⟩) (by assumption) ?_
  try simp only [Act.put, List.setIfInBounds_toArray, List.set_cons_zero, List.set_cons_succ]
  refine wpAnyH_take (i := 4) (oi := ⟨some 36, _, _, _, _, _⟩) (v := (.pointer (some ⟨g, 0, none⟩))) rfl (by kernel_rfl) (by kernel_rfl) (by kernel_rfl) (fun _ _ _ h => h) (Or.inl ⟨by rfl, fun w hSw => by (try dsimp only at hSw); go_simp⟩) (by assumption) ?_
  try simp only [Act.put, List.setIfInBounds_toArray, List.set_cons_zero, List.set_cons_succ]
  refine wpAnyH_take (i := 5) (oi := ⟨some 37, _, _, _, _, _⟩) (v := (.pointer (some ⟨g, 0, none⟩))) rfl (by kernel_rfl) (by kernel_rfl) (by kernel_rfl) (fun _ _ _ h => h) (Or.inl ⟨by rfl, fun w hSw => by (try dsimp only at hSw); go_simp⟩) (by assumption) ?_
  try simp only [Act.put, List.setIfInBounds_toArray, List.set_cons_zero, List.set_cons_succ]
  refine wpAnyH_take (i := 6) (oi := ⟨some 38, _, _, _, _, _⟩) (v := (.pointer (some ⟨g, 0, none⟩))) rfl (by kernel_rfl) (by kernel_rfl) (by kernel_rfl) (fun _ _ _ h => h) (Or.inl ⟨by rfl, fun w hSw => by (try dsimp only at hSw); go_simp⟩) (by assumption) ?_
  try simp only [Act.put, List.setIfInBounds_toArray, List.set_cons_zero, List.set_cons_succ]
  refine wpAnyH_take (i := 7) (oi := ⟨some 39, _, _, _, _, _⟩) (v := (.agg #[.int .i64 b, .int .i64 s, .int .i64 p])) rfl (by kernel_rfl) (by kernel_rfl) (by kernel_rfl) (fun _ _ _ h => h) (Or.inl ⟨by rfl, fun w hSw => by (try dsimp only at hSw); go_simp⟩) (by assumption) ?_
  try simp only [Act.put, List.setIfInBounds_toArray, List.set_cons_zero, List.set_cons_succ]
  refine wpAnyH_take (i := 8) (oi := ⟨some 40, _, _, _, _, _⟩) (v := (.pointer (some ⟨g, 0, none⟩))) rfl (by kernel_rfl) (by kernel_rfl) (by kernel_rfl) (fun _ _ _ h => h) (Or.inl ⟨by rfl, fun w hSw => by (try dsimp only at hSw); go_simp⟩) (by assumption) ?_
  try simp only [Act.put, List.setIfInBounds_toArray, List.set_cons_zero, List.set_cons_succ]
  refine wpAnyH_take (i := 9) (oi := ⟨some 41, _, _, _, _, _⟩) (v := (.pointer (some ⟨g, 0, none⟩))) rfl (by kernel_rfl) (by kernel_rfl) (by kernel_rfl) (fun _ _ _ h => h) (Or.inl ⟨by rfl, fun w hSw => by (try dsimp only at hSw); go_simp⟩) (by assumption) ?_
  try simp only [Act.put, List.setIfInBounds_toArray, List.set_cons_zero, List.set_cons_succ]
  refine wpAnyH_take (i := 10) (oi := ⟨some 42, _, _, _, _, _⟩) (v := (.pointer (some ⟨g, 3, none⟩))) rfl (by kernel_rfl) (by kernel_rfl) (by kernel_rfl) (fun _ _ _ h => h) (Or.inl ⟨by rfl, fun w hSw => by (try dsimp only at hSw); go_simp⟩) (by assumption) ?_
  try simp only [Act.put, List.setIfInBounds_toArray, List.set_cons_zero, List.set_cons_succ]
  refine wpAnyH_take (i := 11) (oi := ⟨some 43, _, _, _, _, _⟩) (v := (.int .i64 r)) rfl (by kernel_rfl) (by kernel_rfl) (by kernel_rfl) (fun _ _ _ h => h) (Or.inl ⟨by rfl, fun w hSw => by (try dsimp only at hSw); go_simp⟩) (by assumption) ?_
  try simp only [Act.put, List.setIfInBounds_toArray, List.set_cons_zero, List.set_cons_succ]
  refine wpAnyH_ready (rs := [3, 12]) (by kernel_rfl) (by simp) ?_
  refine AllReadyH.cons (o := ⟨some 35, _, _, _, _, _⟩) rfl (fun K hK => ?_) (AllReadyH.cons (o := ⟨some 44, _, _, _, _, _⟩) rfl (fun K hK => ?_) AllReadyH.nil)
  · go_simp
    refine hK.out _ _ ⟨c0, c1, c2, c3⟩ (fun hS3 => ?_)
    clear hK K
    try simp only [Act.put, List.setIfInBounds_toArray, List.set_cons_zero, List.set_cons_succ]
    refine wpAnyH_ready (rs := [12]) (by kernel_rfl) (by simp) ?_
    refine AllReadyH.cons (o := ⟨some 44, _, _, _, _, _⟩) rfl (fun K hK => ?_) AllReadyH.nil
    go_simp
    go_at_call 12
    (with_reducible refine (rank_Wait.calls b s p r wt _ HW.out).mono ?_); rintro e w5 ⟨rfl, hb5⟩; have N5 : Aside0 (NdAt w5 g b s p r ⟨false, n.i + 1, n.q⟩) := ⟨blk_below (blk_drew NX.out) hb5⟩; have C5 : Aside0 (Ch (fun k => k = g) w w5) := ⟨CX.out.drew.step hb5⟩; obtain ⟨d0, d1, d2, d3, d4, d5, d6⟩ := N5.out.cells
    dsimp only
    refine hK.out _ _ ⟨d0, d1, d2, d3⟩ (fun hS12 => ?_)
    clear hK K
    try simp only [Act.put, List.setIfInBounds_toArray, List.set_cons_zero, List.set_cons_succ]
    refine wpAnyH_take (i := 13) (oi := ⟨some 45, _, _, _, _, _⟩) (v := (.bool true)) rfl (by kernel_rfl) (by kernel_rfl) (by kernel_rfl) (fun _ _ _ h => h) (Or.inl ⟨by rfl, fun w hSw => by (try dsimp only at hSw); go_simp⟩) (by assumption) ?_
    try simp only [Act.put, List.setIfInBounds_toArray, List.set_cons_zero, List.set_cons_succ]
    refine wpAnyH_take (i := 14) (oi := ⟨some 46, _, _, _, _, _⟩) (v := (.bool true)) rfl (by kernel_rfl) (by kernel_rfl) (by kernel_rfl) (fun _ _ _ h => h) (Or.inl ⟨by rfl, fun w hSw => by (try dsimp only at hSw); go_simp⟩) (by assumption) ?_
    try simp only [Act.put, List.setIfInBounds_toArray, List.set_cons_zero, List.set_cons_succ]
    refine wpAnyH_take (i := 15) (oi := ⟨some 47, _, _, _, _, _⟩) (v := (.pointer (some ⟨g, 0, none⟩))) rfl (by kernel_rfl) (by kernel_rfl) (by kernel_rfl) (fun _ _ _ h => h) (Or.inl ⟨by rfl, fun w hSw => by (try dsimp only at hSw); go_simp⟩) (by assumption) ?_
    try simp only [Act.put, List.setIfInBounds_toArray, List.set_cons_zero, List.set_cons_succ]
    refine wpAnyH_ready (rs := [16]) (by kernel_rfl) (by simp) ?_
    refine AllReadyH.cons (o := ⟨some 48, _, _, _, _, _⟩) rfl (fun K hK => ?_) AllReadyH.nil
    go_simp
    go_at_call 42
    (with_reducible refine (Rise_calls g b s p r _ _ N5.out).mono ?_); rintro e w6 ⟨rfl, hn6, hc6⟩; obtain ⟨e0, e1, e2, e3, e4, e5, e6⟩ := NdAt.cells hn6
    dsimp only
    refine hK.out _ _ ⟨e0, e1, e2, e3⟩ (fun hS16 => ?_)
    clear hK K
    try simp only [Act.put, List.setIfInBounds_toArray, List.set_cons_zero, List.set_cons_succ]
    refine wpAnyH_take (i := 17) (oi := ⟨some 49, _, _, _, _, _⟩) (v := (.bool true)) rfl (by kernel_rfl) (by kernel_rfl) (by kernel_rfl) (fun _ _ _ h => h) (Or.inl ⟨by rfl, fun w hSw => by (try dsimp only at hSw); go_simp⟩) (by assumption) ?_
    try simp only [Act.put, List.setIfInBounds_toArray, List.set_cons_zero, List.set_cons_succ]
    refine wpAnyH_take (i := 18) (oi := ⟨some 4, _, _, _, _, _⟩) (v := (.bool true)) rfl (by kernel_rfl) (by kernel_rfl) (by kernel_rfl) (fun _ _ _ h => h) (Or.inl ⟨by rfl, fun w hSw => by (try dsimp only at hSw); go_simp⟩) (by assumption) ?_
    try simp only [Act.put, List.setIfInBounds_toArray, List.set_cons_zero, List.set_cons_succ]
    refine wpAnyH_done (by kernel_rfl) ?_ _
    go_wp2
    go_ret
    exact ⟨rfl, hn6, C5.out.trans hc6⟩
  · go_simp
    go_at_call 12
    (with_reducible refine (rank_Wait.calls b s p r wt _ HW.out).mono ?_); rintro e w5 ⟨rfl, hb5⟩; have N5 : Aside0 (NdAt w5 g b s p r ⟨false, n.i + 1, n.q⟩) := ⟨blk_below (blk_drew NX.out) hb5⟩; have C5 : Aside0 (Ch (fun k => k = g) w w5) := ⟨CX.out.drew.step hb5⟩; obtain ⟨d0, d1, d2, d3, d4, d5, d6⟩ := N5.out.cells
    dsimp only
    refine hK.out _ _ ⟨d0, d1, d2, d3⟩ (fun hS12 => ?_)
    clear hK K
    try simp only [Act.put, List.setIfInBounds_toArray, List.set_cons_zero, List.set_cons_succ]
    refine wpAnyH_ready (rs := [3]) (by kernel_rfl) (by simp) ?_
    refine AllReadyH.cons (o := ⟨some 35, _, _, _, _, _⟩) rfl (fun K hK => ?_) AllReadyH.nil
    go_simp
    refine hK.out _ _ ⟨d0, d1, d2, d3⟩ (fun hS3 => ?_)
    clear hK K
    try simp only [Act.put, List.setIfInBounds_toArray, List.set_cons_zero, List.set_cons_succ]
    refine wpAnyH_take (i := 13) (oi := ⟨some 45, _, _, _, _, _⟩) (v := (.bool true)) rfl (by kernel_rfl) (by kernel_rfl) (by kernel_rfl) (fun _ _ _ h => h) (Or.inl ⟨by rfl, fun w hSw => by (try dsimp only at hSw); go_simp⟩) (by assumption) ?_
    try simp only [Act.put, List.setIfInBounds_toArray, List.set_cons_zero, List.set_cons_succ]
    refine wpAnyH_take (i := 14) (oi := ⟨some 46, _, _, _, _, _⟩) (v := (.bool true)) rfl (by kernel_rfl) (by kernel_rfl) (by kernel_rfl) (fun _ _ _ h => h) (Or.inl ⟨by rfl, fun w hSw => by (try dsimp only at hSw); go_simp⟩) (by assumption) ?_
    try simp only [Act.put, List.setIfInBounds_toArray, List.set_cons_zero, List.set_cons_succ]
    refine wpAnyH_take (i := 15) (oi := ⟨some 47, _, _, _, _, _⟩) (v := (.pointer (some ⟨g, 0, none⟩))) rfl (by kernel_rfl) (by kernel_rfl) (by kernel_rfl) (fun _ _ _ h => h) (Or.inl ⟨by rfl, fun w hSw => by (try dsimp only at hSw); go_simp⟩) (by assumption) ?_
    try simp only [Act.put, List.setIfInBounds_toArray, List.set_cons_zero, List.set_cons_succ]
    refine wpAnyH_ready (rs := [16]) (by kernel_rfl) (by simp) ?_
    refine AllReadyH.cons (o := ⟨some 48, _, _, _, _, _⟩) rfl (fun K hK => ?_) AllReadyH.nil
    go_simp
    go_at_call 42
    (with_reducible refine (Rise_calls g b s p r _ _ N5.out).mono ?_); rintro e w6 ⟨rfl, hn6, hc6⟩; obtain ⟨e0, e1, e2, e3, e4, e5, e6⟩ := NdAt.cells hn6
    dsimp only
    refine hK.out _ _ ⟨e0, e1, e2, e3⟩ (fun hS16 => ?_)
    clear hK K
    try simp only [Act.put, List.setIfInBounds_toArray, List.set_cons_zero, List.set_cons_succ]
    refine wpAnyH_take (i := 17) (oi := ⟨some 49, _, _, _, _, _⟩) (v := (.bool true)) rfl (by kernel_rfl) (by kernel_rfl) (by kernel_rfl) (fun _ _ _ h => h) (Or.inl ⟨by rfl, fun w hSw => by (try dsimp only at hSw); go_simp⟩) (by assumption) ?_
    try simp only [Act.put, List.setIfInBounds_toArray, List.set_cons_zero, List.set_cons_succ]
    refine wpAnyH_take (i := 18) (oi := ⟨some 4, _, _, _, _, _⟩) (v := (.bool true)) rfl (by kernel_rfl) (by kernel_rfl) (by kernel_rfl) (fun _ _ _ h => h) (Or.inl ⟨by rfl, fun w hSw => by (try dsimp only at hSw); go_simp⟩) (by assumption) ?_
    try simp only [Act.put, List.setIfInBounds_toArray, List.set_cons_zero, List.set_cons_succ]
    refine wpAnyH_done (by kernel_rfl) ?_ _
    go_wp2
    go_ret
    exact ⟨rfl, hn6, C5.out.trans hc6⟩
set_option maxHeartbeats 8000000 in
set_option maxRecDepth 100000 in
theorem Tick_leads (g : Nat) (b s p r : Int) (n : Nd) (A : Option Addr) (c : Nat) (zs : List Int) (w : World) (h : NdAt w g b s p r n) (hl : zs.length ≤ c) (hz : Kd.C (Kd.int .i64) w A zs.length zs) (ha : zs.any (betterB r) = false) (hm : n.m = true)
    (q0 : 0 ≤ n.q) (q1 : n.q < 4611686018427387904) (p0 : 1 ≤ p) (p1 : p ≤ 1000) :
    Calls Try.prog 18 #[.pointer (some ⟨g, 0, none⟩), .slice A zs.length c] w fun e w' => e = .returned (.bool (Int.tmod (n.q + 1) p == 0)) ∧ NdAt w' g b s p r ⟨true, n.i, Int.tmod (n.q + 1) p⟩ ∧ Ch (fun k => k = g) w w' := by
  have N0 := Aside0.mk h
  have HZ := Aside0.mk hz
  have HL := Aside0.mk hl
  have HA := Aside0.mk ha
  have ei := i64w (n.q + 1) (by omega) (by omega)
  have ei2 : IntKind.i64.wrap (n.q + 1) = n.q + 1 := by rw [IntKind.wrap_i64]; omega
  have gp : (p == 0) = false := beq_eq_false_iff_ne.mpr (by omega)
  have gp2 : (p = 0) = False := eq_false (by omega)
  have hu23 := Try.underlying23
  clear h hz hl ha q0 q1 p0 p1
  go_enter Try.func18, Try.ntmps18
  go_wp2_with fail
  (with_reducible refine (ContainsFunc_calls g r A c zs _ HL.out HZ.out N0.out.cells.2.2.2.1).mono ?_); rintro e w1 ⟨rfl, ⟨m, rfl⟩⟩
  have N1 : Aside0 (NdAt (w.drewN m) g b s p r n) := ⟨N0.out⟩
  obtain ⟨c0, c1, c2, c3, c4, c5, c6⟩ := NdAt.cells N1.out
  obtain ⟨f4, f5, f6⟩ := NdAt.frz N1.out
  have NX : Aside0 (NdAt ((w.drewN m).setCell ⟨g, 6, none⟩ (.int .i64 (Int.tmod (n.q + 1) p))) g b s p r ⟨true, n.i, Int.tmod (n.q + 1) p⟩) := ⟨by have := N1.out.setq (Int.tmod (n.q + 1) p); rw [hm] at this; exact this⟩
  have CX : Aside0 (Ch (fun k => k = g) w ((w.drewN (m + 1)).setCell ⟨g, 6, none⟩ (.int .i64 (Int.tmod (n.q + 1) p)))) := ⟨((Ch.refl _ _).drewN (m + 1)).setg _⟩
  have c2' := (NdAt.cells NX.out).2.2.1
  have c6' : w.cell? ⟨g, 6, none⟩ = some (.int .i64 n.q) := c6
  have f6' : w.frozen? ⟨g, 6, none⟩ = false := f6
  rw [hm] at c4
  rw [HA.out]
  go_upto_region 9 with (fail)
  refine wp_region_held_drew (S := (fun w' : World => w'.cell? ⟨g, 2, none⟩ = some (.int .i64 p))) (by kernel_rfl) c2 (fun hS0 => ?_)
  refine wpAnyH_take (i := 0) (oi := ⟨some 50, _, _, _, _, _⟩) (v := (.pointer (some ⟨g, 0, none⟩))) rfl (by kernel_rfl) (by kernel_rfl) (by kernel_rfl) (fun _ _ _ h => h) (Or.inl ⟨by rfl, fun w hSw => by (try dsimp only at hSw); go_simp⟩) (by assumption) ?_
  try simp only [Act.put, List.setIfInBounds_toArray, List.set_cons_zero, List.set_cons_succ]
  refine wpAnyH_take (i := 1) (oi := ⟨some 51, _, _, _, _, _⟩) (v := (.pointer (some ⟨g, 0, none⟩))) rfl (by kernel_rfl) (by kernel_rfl) (by kernel_rfl) (fun _ _ _ h => h) (Or.inl ⟨by rfl, fun w hSw => by (try dsimp only at hSw); go_simp⟩) (by assumption) ?_
  try simp only [Act.put, List.setIfInBounds_toArray, List.set_cons_zero, List.set_cons_succ]
  refine wpAnyH_take (i := 2) (oi := ⟨some 52, _, _, _, _, _⟩) (v := (.pointer (some ⟨g, 0, none⟩))) rfl (by kernel_rfl) (by kernel_rfl) (by kernel_rfl) (fun _ _ _ h => h) (Or.inl ⟨by rfl, fun w hSw => by (try dsimp only at hSw); go_simp⟩) (by assumption) ?_
  try simp only [Act.put, List.setIfInBounds_toArray, List.set_cons_zero, List.set_cons_succ]
  refine wpAnyH_take (i := 3) (oi := ⟨some 53, _, _, _, _, _⟩) (v := (.pointer (some ⟨g, 6, none⟩))) rfl (by kernel_rfl) (by kernel_rfl) (by kernel_rfl) (fun _ _ _ h => h) (Or.inl ⟨by rfl, fun w hSw => by (try dsimp only at hSw); go_simp⟩) (by assumption) ?_
  try simp only [Act.put, List.setIfInBounds_toArray, List.set_cons_zero, List.set_cons_succ]
  refine wpAnyH_take (i := 6) (oi := ⟨some 56, _, _, _, _, _⟩) (v := (.pointer (some ⟨g, 0, none⟩))) rfl (by kernel_rfl) (by kernel_rfl) (by kernel_rfl) (fun _ _ _ h => h) (Or.inl ⟨by rfl, fun w hSw => by (try dsimp only at hSw); go_simp⟩) (by assumption) ?_
  try simp only [Act.put, List.setIfInBounds_toArray, List.set_cons_zero, List.set_cons_succ]
  refine wpAnyH_take (i := 7) (oi := ⟨some 57, _, _, _, _, _⟩) (v := (.pointer (some ⟨g, 0, none⟩))) rfl (by kernel_rfl) (by kernel_rfl) (by kernel_rfl) (fun _ _ _ h => h) (Or.inl ⟨by rfl, fun w hSw => by (try dsimp only at hSw); go_simp⟩) (by assumption) ?_
  try simp only [Act.put, List.setIfInBounds_toArray, List.set_cons_zero, List.set_cons_succ]
  refine wpAnyH_take (i := 8) (oi := ⟨some 58, _, _, _, _, _⟩) (v := (.pointer (some ⟨g, 0, none⟩))) rfl (by kernel_rfl) (by kernel_rfl) (by kernel_rfl) (fun _ _ _ h => h) (Or.inl ⟨by rfl, fun w hSw => by (try dsimp only at hSw); go_simp⟩) (by assumption) ?_
  try simp only [Act.put, List.setIfInBounds_toArray, List.set_cons_zero, List.set_cons_succ]
  refine wpAnyH_take (i := 9) (oi := ⟨some 59, _, _, _, _, _⟩) (v := (.pointer (some ⟨g, 2, none⟩))) rfl (by kernel_rfl) (by kernel_rfl) (by kernel_rfl) (fun _ _ _ h => h) (Or.inl ⟨by rfl, fun w hSw => by (try dsimp only at hSw); go_simp⟩) (by assumption) ?_
  try simp only [Act.put, List.setIfInBounds_toArray, List.set_cons_zero, List.set_cons_succ]
  refine wpAnyH_take (i := 10) (oi := ⟨some 60, _, _, _, _, _⟩) (v := (.int .i64 p)) rfl (by kernel_rfl) (by kernel_rfl) (by kernel_rfl) (fun _ _ _ h => h) (Or.inl ⟨by rfl, fun w hSw => by (try dsimp only at hSw); go_simp⟩) (by assumption) ?_
  try simp only [Act.put, List.setIfInBounds_toArray, List.set_cons_zero, List.set_cons_succ]
  refine wpAnyH_ready (rs := [4]) (by kernel_rfl) (by simp) ?_
  refine AllReadyH.cons (o := ⟨some 54, _, _, _, _, _⟩) rfl (fun K hK => ?_) AllReadyH.nil
  go_simp
  refine hK.out _ _ c2 (fun hS4 => ?_)
  clear hK K
  try simp only [Act.put, List.setIfInBounds_toArray, List.set_cons_zero, List.set_cons_succ]
  refine wpAnyH_take (i := 5) (oi := ⟨some 55, _, _, _, _, _⟩) (v := (.int .i64 (n.q + 1))) rfl (by kernel_rfl) (by kernel_rfl) (by kernel_rfl) (fun _ _ _ h => h) (Or.inl ⟨by rfl, fun w hSw => by (try dsimp only at hSw); go_simp⟩) (by assumption) ?_
  try simp only [Act.put, List.setIfInBounds_toArray, List.set_cons_zero, List.set_cons_succ]
  refine wpAnyH_take (i := 11) (oi := ⟨some 61, _, _, _, _, _⟩) (v := (.int .i64 (Int.tmod (n.q + 1) p))) rfl (by kernel_rfl) (by kernel_rfl) (by kernel_rfl) (fun _ _ _ h => h) (Or.inl ⟨by rfl, fun w hSw => by (try dsimp only at hSw); go_simp⟩) (by assumption) ?_
  try simp only [Act.put, List.setIfInBounds_toArray, List.set_cons_zero, List.set_cons_succ]
  refine wpAnyH_take (i := 12) (oi := ⟨some 62, _, _, _, _, _⟩) (v := (.pointer (some ⟨g, 0, none⟩))) rfl (by kernel_rfl) (by kernel_rfl) (by kernel_rfl) (fun _ _ _ h => h) (Or.inl ⟨by rfl, fun w hSw => by (try dsimp only at hSw); go_simp⟩) (by assumption) ?_
  try simp only [Act.put, List.setIfInBounds_toArray, List.set_cons_zero, List.set_cons_succ]
  refine wpAnyH_take (i := 13) (oi := ⟨some 63, _, _, _, _, _⟩) (v := (.pointer (some ⟨g, 6, none⟩))) rfl (by kernel_rfl) (by kernel_rfl) (by kernel_rfl) (fun _ _ _ h => h) (Or.inl ⟨by rfl, fun w hSw => by (try dsimp only at hSw); go_simp⟩) (by assumption) ?_
  try simp only [Act.put, List.setIfInBounds_toArray, List.set_cons_zero, List.set_cons_succ]
  refine wpAnyH_ready (rs := [14]) (by kernel_rfl) (by simp) ?_
  refine AllReadyH.cons (o := ⟨none, _, _, _, _, _⟩) rfl (fun K hK => ?_) AllReadyH.nil
  go_simp
  refine hK.out _ _ c2' (fun hS14 => ?_)
  clear hK K
  try simp only [Act.put, List.setIfInBounds_toArray, List.set_cons_zero, List.set_cons_succ]
  refine wpAnyH_done (by kernel_rfl) ?_ _
  have c6n := (NdAt.cells NX.out).2.2.2.2.2.2
  go_wp2
  go_ret
  exact ⟨rfl, NX.out, CX.out⟩
end Go.Proofs.Ytcgkbbfnlbjblaa.P
