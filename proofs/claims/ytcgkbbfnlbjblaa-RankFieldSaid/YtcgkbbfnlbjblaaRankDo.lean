/- A small config, and an act to a field, by the program: the walks. Conditions: the ranges that each lemma names. -/
import Derived.Test.YtcgkbbfnlbjblaaRankPlain
import Derived.Test.YtcgkbbfnlbjblaaRankLive2
namespace Go.Proofs.Ytcgkbbfnlbjblaa.P
open Go.RowKit Go.Proofs.YtcgkbbfnlbjblaaW.PrintWords Go.Proofs.YtcgkbbfnlbjblaaW.PrintLast Go.Proofs.YtcgkbbfnlbjblaaW.PrintMore
set_option linter.unusedVariables false
set_option linter.unusedSimpArgs false
def partV (n b : Int) : Int := if n < 0 then 0 else Int.tmod n b
theorem part_eq (n b : Int) (hb : 0 < b) : bellbuoylaw21_part.f n b = some (partV n b) := by
  unfold bellbuoylaw21_part.f partV
  split
  · rfl
  · rw [if_neg (by omega)]
theorem part_range (n b : Int) (hb : 0 < b) : 0 ≤ partV n b ∧ partV n b < b := by
  unfold partV
  split
  · omega
  · exact ⟨Int.tmod_nonneg _ (by omega), Int.tmod_lt_of_pos _ hb⟩
structure S2 (b s p : Int) (w W : World) : Prop where
  k1 : W.heap[w.heap.size]? = some (.cells #[.int .i64 b, .int .i64 s, .int .i64 p] 23 (0, 0))
  k2 : W.heap[w.heap.size + 1]? = some (.cells #[.int .i64 0, .int .i64 0, .int .i64 0] 23 (0, 0))
  B : Below w.heap.size w W
theorem S2.below {b s p : Int} {w W W' : World} (h : S2 b s p w W) (hb : Below W.heap.size W W') : S2 b s p w W' := ⟨blk_below h.k1 hb, blk_below h.k2 hb, below_step h.B hb⟩
theorem S2.drew {b s p : Int} {w W : World} (h : S2 b s p w W) : S2 b s p w W.drew := h.below (below_drew1 (Below.refl _ _))
theorem S2.cells {b s p : Int} {w W : World} (h : S2 b s p w W) : W.cell? ⟨w.heap.size, 0, none⟩ = some (.int .i64 b) ∧ W.cell? ⟨w.heap.size, 1, none⟩ = some (.int .i64 s) ∧ W.cell? ⟨w.heap.size, 2, none⟩ = some (.int .i64 p) ∧ W.cell? ⟨w.heap.size + 1, 0, none⟩ = some (.int .i64 0) ∧ W.cell? ⟨w.heap.size + 1, 1, none⟩ = some (.int .i64 0) ∧ W.cell? ⟨w.heap.size + 1, 2, none⟩ = some (.int .i64 0) :=
  ⟨(blk_cell h.k1 0).trans rfl, (blk_cell h.k1 1).trans rfl, (blk_cell h.k1 2).trans rfl, (blk_cell h.k2 0).trans rfl, (blk_cell h.k2 1).trans rfl, (blk_cell h.k2 2).trans rfl⟩
theorem S2.frz {b s p : Int} {w W : World} (h : S2 b s p w W) : W.frozen? ⟨w.heap.size + 1, 0, none⟩ = false ∧ W.frozen? ⟨w.heap.size + 1, 1, none⟩ = false ∧ W.frozen? ⟨w.heap.size + 1, 2, none⟩ = false :=
  ⟨blk_frozen h.k2 0, blk_frozen h.k2 1, blk_frozen h.k2 2⟩
theorem S2.made (b s p : Int) (w : World) : S2 b s p w ((w.alloc (.cells #[.int .i64 b, .int .i64 s, .int .i64 p] 23)).alloc (.cells #[.int .i64 0, .int .i64 0, .int .i64 0] 23)) :=
  ⟨blk_below (blk_new _ _) (below_alloc (Below.refl _ _) _), by have := blk_new (w.alloc (.cells #[.int .i64 b, .int .i64 s, .int .i64 p] 23)) (.cells #[.int .i64 0, .int .i64 0, .int .i64 0] 23); rwa [World.size_alloc] at this, below_alloc (below_alloc (Below.refl _ _) _) _⟩
theorem S2.done {b s p : Int} {w W : World} (h : S2 b s p w W) (x y z : Int) :
    (((W.setCell ⟨w.heap.size + 1, 0, none⟩ (.int .i64 x)).setCell ⟨w.heap.size + 1, 1, none⟩ (.int .i64 y)).setCell ⟨w.heap.size + 1, 2, none⟩ (.int .i64 z)).heap[w.heap.size + 1]? = some (.cells #[.int .i64 x, .int .i64 y, .int .i64 z] 23 (0, 0)) := by
  have := blk_set (blk_set (blk_set h.k2 0 (.int .i64 x)) 1 (.int .i64 y)) 2 (.int .i64 z)
  simpa using this
theorem S2.doneB {b s p : Int} {w W : World} (h : S2 b s p w W) (x y z : Value) :
    Below w.heap.size w (((W.setCell ⟨w.heap.size + 1, 0, none⟩ x).setCell ⟨w.heap.size + 1, 1, none⟩ y).setCell ⟨w.heap.size + 1, 2, none⟩ z) :=
  ((h.B.setCell (p := ⟨w.heap.size + 1, 0, none⟩) (Nat.le_succ _) _).setCell (p := ⟨w.heap.size + 1, 1, none⟩) (Nat.le_succ _) _).setCell (p := ⟨w.heap.size + 1, 2, none⟩) (Nat.le_succ _) _
set_option maxHeartbeats 8000000 in
set_option maxRecDepth 100000 in
theorem Small_calls (b s p k : Int) (w : World) (k0 : 0 ≤ k) (k1 : k ≤ 4) :
    Calls Try.prog 36 #[.agg #[.int .i64 b, .int .i64 s, .int .i64 p], .int .i64 k] w fun e w' => e = .returned (.agg #[.int .i64 (partV b 10 + (k + 2) * 6), .int .i64 (partV s 6 + 1), .int .i64 (partV p 5 + 1)]) ∧ Below w.heap.size w w' := by
  have hu23 := Try.underlying23
  have H1 := Aside0.mk (part_eq p 5 (by decide))
  have H2 := Aside0.mk (part_eq s 6 (by decide))
  have H3 := Aside0.mk (part_eq b 10 (by decide))
  have r1 := part_range p 5 (by decide)
  have r2 := part_range s 6 (by decide)
  have r3 := part_range b 10 (by decide)
  generalize partV p 5 = vp at H1 r1
  generalize partV s 6 = vs at H2 r2
  generalize partV b 10 = vb at H3 r3
  have e1 : IntKind.i64.wrap (vp + 1) = vp + 1 := by rw [IntKind.wrap_i64]; omega
  have e2 : IntKind.i64.wrap (vs + 1) = vs + 1 := by rw [IntKind.wrap_i64]; omega
  have e3 : IntKind.i64.wrap (k + 2) = k + 2 := by rw [IntKind.wrap_i64]; omega
  have e4 : IntKind.i64.wrap ((k + 2) * 6) = (k + 2) * 6 := by rw [IntKind.wrap_i64]; omega
  have e5 : IntKind.i64.wrap (vb + (k + 2) * 6) = vb + (k + 2) * 6 := by rw [IntKind.wrap_i64]; omega
  have BX := Aside0.mk (S2.made b s p w)
  obtain ⟨c0, c1, c2, d0, d1, d2⟩ := BX.out.cells
  obtain ⟨f0, f1, f2⟩ := BX.out.frz
  clear k0 k1 r1 r2 r3
  go_enter Try.func36, Try.ntmps36
  go_wp2_with fail
  go_region_held3 (fun w' => w'.cell? ⟨w.heap.size, 0, none⟩ = some (.int .i64 b) ∧ w'.cell? ⟨w.heap.size, 1, none⟩ = some (.int .i64 s) ∧ w'.cell? ⟨w.heap.size, 2, none⟩ = some (.int .i64 p)) (go_keep)
    (first
      | (go_at_call 29; (with_reducible refine (bellbuoylaw21_part.calls p 5 _ _ H1.out).mono ?_); rintro e w5 ⟨rfl, hb⟩; have n0 : Aside0 (S2 b s p w w5) := ⟨(by first | exact BX.out.below (Drawn0.below hb) | exact BX.out.drew.below (Drawn0.below hb))⟩; clear hb; clear BX; have BX := n0; clear n0; clear c0 c1 c2 d0 d1 d2 f0 f1 f2; obtain ⟨c0, c1, c2, d0, d1, d2⟩ := BX.out.cells; obtain ⟨f0, f1, f2⟩ := BX.out.frz)
      | (go_at_call 29; (with_reducible refine (bellbuoylaw21_part.calls s 6 _ _ H2.out).mono ?_); rintro e w5 ⟨rfl, hb⟩; have n0 : Aside0 (S2 b s p w w5) := ⟨(by first | exact BX.out.below (Drawn0.below hb) | exact BX.out.drew.below (Drawn0.below hb))⟩; clear hb; clear BX; have BX := n0; clear n0; clear c0 c1 c2 d0 d1 d2 f0 f1 f2; obtain ⟨c0, c1, c2, d0, d1, d2⟩ := BX.out.cells; obtain ⟨f0, f1, f2⟩ := BX.out.frz)
      | (go_at_call 29; (with_reducible refine (bellbuoylaw21_part.calls b 10 _ _ H3.out).mono ?_); rintro e w5 ⟨rfl, hb⟩; have n0 : Aside0 (S2 b s p w w5) := ⟨(by first | exact BX.out.below (Drawn0.below hb) | exact BX.out.drew.below (Drawn0.below hb))⟩; clear hb; clear BX; have BX := n0; clear n0; clear c0 c1 c2 d0 d1 d2 f0 f1 f2; obtain ⟨c0, c1, c2, d0, d1, d2⟩ := BX.out.cells; obtain ⟨f0, f1, f2⟩ := BX.out.frz))
  go_wp2
  (try simp only [Exit.jump])
  refine bodyPost_ret (results_single rfl (.cell (w.heap.size + 1) 23 _ (0, 0) _ rfl (BX.out.done _ _ _) Try.underlying23 rfl (by kernel_rfl) .nil)) rfl ?_
  exact ⟨rfl, BX.out.doneB _ _ _⟩
structure Fx (w W : World) (base f g : Nat) (b s p : Int) (H : Nat → Option Nat) (L : Nat → Option Nd) (T : List Int) : Prop where
  fld : Fld W base f g b s p 5 H L T
  ok : FOk (WJ b s p) p 5 L
  B : Below base w W
  hb : base ≤ w.heap.size
theorem Fx.size {w W : World} {base f g : Nat} {b s p : Int} {H : Nat → Option Nat} {L : Nat → Option Nd} {T : List Int} (h : Fx w W base f g b s p H L T) : base ≤ W.heap.size := Nat.le_trans h.hb h.B.size
section
variable {w W W' : World} {base f g : Nat} {b s p : Int} {H H' : Nat → Option Nat} {L L' : Nat → Option Nd} {T T' : List Int}
theorem Fx.below (h : Fx w W base f g b s p H L T) (hb : Below W.heap.size W W') : Fx w W' base f g b s p H L T := ⟨h.fld.below hb, h.ok, h.B.trans (hb.mono h.size), h.hb⟩
theorem Fx.drewN (h : Fx w W base f g b s p H L T) (k : Nat) : Fx w (W.drewN k) base f g b s p H L T := h.below (Drawn0.below ⟨⟨k, rfl⟩⟩)
theorem Fx.go (h : Fx w W base f g b s p H L T) (hf : Fld W' base f g b s p 5 H' L' T') (ok : FOk (WJ b s p) p 5 L') (hc : Ch (FldS f g H 5) W W') : Fx w W' base f g b s p H' L' T' :=
  ⟨hf, ok, h.B.trans (hc.below h.size (fun k e => h.fld.base_le k e)), h.hb⟩
end
theorem WJ_nn (b s p : Int) (j : Nat) : 0 ≤ WJ b s p j := (wait_range b s p (j : Int)).1
theorem act_cells {w W : World} {a k m : Int} (h : W.heap[w.heap.size]? = some (.cells #[.int .i64 a, .int .i64 k, .int .i64 m] 58 (0, 0))) :
    W.cell? ⟨w.heap.size, 0, none⟩ = some (.int .i64 a) ∧ W.cell? ⟨w.heap.size, 1, none⟩ = some (.int .i64 k) ∧ W.cell? ⟨w.heap.size, 2, none⟩ = some (.int .i64 m) := ⟨(blk_cell h 0).trans rfl, (blk_cell h 1).trans rfl, (blk_cell h 2).trans rfl⟩
set_option maxHeartbeats 8000000 in
set_option maxRecDepth 100000 in
theorem Do_calls (w : World) (base f g : Nat) (b s p a k m : Int) (H : Nat → Option Nat) (L : Nat → Option Nd) (T : List Int) (h : Fx w w base f g b s p H L T) (hr : rightB b s p = true) :
    Calls Try.prog 37 #[.pointer (some ⟨f, 0, none⟩), .agg #[.int .i64 a, .int .i64 k, .int .i64 m], .int .i64 5] w fun e w' => (∃ v, e = .returned v) ∧ ∃ H' L' T', Fx w w' base f g b s p H' L' T' := by
  have hu58 := Try.underlying58
  have HR := Aside0.mk hr
  have H1 := Aside0.mk (part_eq k 5 (by decide))
  have H2 := Aside0.mk (part_eq m 40 (by decide))
  have R2 := Aside0.mk (part_range m 40 (by decide))
  have BK0 : Aside0 ((w.alloc (.cells #[.int .i64 a, .int .i64 k, .int .i64 m] 58)).heap[w.heap.size]? = some (.cells #[.int .i64 a, .int .i64 k, .int .i64 m] 58 (0, 0))) := ⟨blk_new _ _⟩
  have F0 : Aside0 (Fx w (w.alloc (.cells #[.int .i64 a, .int .i64 k, .int .i64 m] 58)) base f g b s p H L T) := ⟨h.below (below_alloc (Below.refl _ _) _)⟩
  generalize partV k 5 = vk at H1
  generalize partV m 40 = vm at H2 R2
  obtain ⟨c0, c1, c2⟩ := act_cells BK0.out
  clear h hr
  by_cases a0 : a = 0
  · subst a0
    go_enter Try.func37, Try.ntmps37
    go_wp2_with fail
    (with_reducible refine (bellbuoylaw21_part.calls k 5 _ _ H1.out).mono ?_); rintro e w1 ⟨rfl, hb⟩
    have F1 := Aside0.mk (F0.out.below (Drawn0.below hb))
    clear hb
    go_wp2_with fail
    (with_reducible refine (CrashL_calls base f g 5 b s p vk H L T _ F1.out.fld F1.out.size (by decide) HR.out).mono ?_); rintro e w2 ⟨H', rfl, hf, hc⟩
    have F2 := Aside0.mk (F1.out.go hf (F1.out.ok.turn (fun j _ => WJ_nn b s p j) (right_of HR.out).1 vk false) hc)
    clear hf hc
    go_wp2_with fail
    go_end0
    exact ⟨⟨_, rfl⟩, _, _, _, F2.out⟩
  · have g0 : (a == 0) = false := beq_eq_false_iff_ne.mpr a0
    by_cases a1 : a = 1
    · subst a1
      go_enter Try.func37, Try.ntmps37
      go_wp2_with fail
      (with_reducible refine (bellbuoylaw21_part.calls k 5 _ _ H1.out).mono ?_); rintro e w1 ⟨rfl, hb⟩
      have F1 := Aside0.mk (F0.out.below (Drawn0.below hb))
      clear hb
      go_wp2_with fail
      (with_reducible refine (RestartL_calls base f g 5 b s p vk H L T _ F1.out.fld F1.out.size (by decide) HR.out).mono ?_); rintro e w2 ⟨H', rfl, hf, hc⟩
      have F2 := Aside0.mk (F1.out.go hf (F1.out.ok.turn (fun j _ => WJ_nn b s p j) (right_of HR.out).1 vk true) hc)
      clear hf hc
      go_wp2_with fail
      go_end0
      exact ⟨⟨_, rfl⟩, _, _, _, F2.out⟩
    · have g1 : (a == 1) = false := beq_eq_false_iff_ne.mpr a1
      by_cases a2 : a = 2
      · subst a2
        go_enter Try.func37, Try.ntmps37
        go_wp2_with fail
        (with_reducible refine (FTickL_calls true base f g 5 b s p H L T _ F0.out.fld F0.out.size (by decide) HR.out F0.out.ok).mono ?_); rintro e w2 ⟨⟨v2, rfl⟩, hf, hc⟩
        have F2 := Aside0.mk (F0.out.go hf (F0.out.ok.tick (fun j _ => WJ_nn b s p j) (right_of HR.out).1 T true) hc)
        clear hf hc
        go_wp2_with fail
        go_end0
        exact ⟨⟨_, rfl⟩, _, _, _, F2.out⟩
      · have g2 : (a == 2) = false := beq_eq_false_iff_ne.mpr a2
        clear a0 a1 a2
        go_enter Try.func37, Try.ntmps37
        go_wp2_with fail
        go_loopg [6] vm.toNat (fun kq v6 w' => ∃ (i : Int) (L1 : Nat → Option Nd) (T1 : List Int), v6 = .int .i64 i ∧ Aside0 (0 ≤ i ∧ i + kq = vm) ∧ Aside0 (w'.heap[w.heap.size]? = some (.cells #[.int .i64 a, .int .i64 k, .int .i64 m] 58 (0, 0))) ∧ Aside0 (Fx w w' base f g b s p H L1 T1))
        case atStart => exact ⟨0, L, T, rfl, ⟨by have := R2.out; omega⟩, BK0, F0⟩
        case round =>
          obtain ⟨i, L1, T1, rfl, HI, BK, F1⟩ := hrel
          clear c0 c1 c2
          obtain ⟨c0, c1, c2⟩ := act_cells BK.out
          cases gk with
          | zero =>
            have u1 : decide (i < vm) = false := decide_eq_false (by have := HI.out; omega)
            go_wp2_with fail
            (with_reducible refine (bellbuoylaw21_part.calls m 40 _ _ H2.out).mono ?_); rintro e w1 ⟨rfl, hb⟩
            have F2 := Aside0.mk (F1.out.below (Drawn0.below hb))
            clear hb
            go_wp2_with fail
            go_end0
            exact ⟨⟨_, rfl⟩, _, _, _, F2.out⟩
          | succ k1 =>
            have u1 : decide (i < vm) = true := decide_eq_true (by have := HI.out; omega)
            have HI' : Aside0 (0 ≤ i + 1 ∧ i + 1 + k1 = vm) := ⟨by have := HI.out; omega⟩
            have hi1 : wrap64 (i + 1) = i + 1 := i64w _ (by have := HI.out; omega) (by have := HI.out; have := R2.out; omega)
            go_wp2_with fail
            (with_reducible refine (bellbuoylaw21_part.calls m 40 _ _ H2.out).mono ?_); rintro e w1 ⟨rfl, hb⟩
            have F2 := Aside0.mk (F1.out.below (Drawn0.below hb))
            have BK2 : Aside0 (w1.heap[w.heap.size]? = some (.cells #[.int .i64 a, .int .i64 k, .int .i64 m] 58 (0, 0))) := ⟨blk_below BK.out (Drawn0.below hb)⟩
            clear hb c0 c1 c2
            go_wp2_with fail
            (with_reducible refine (FTickL_calls false base f g 5 b s p H L1 T1 _ F2.out.fld F2.out.size (by decide) HR.out F2.out.ok).mono ?_); rintro e w2 ⟨⟨v2, rfl⟩, hf, hc⟩
            have F3 := Aside0.mk (F2.out.go hf (F2.out.ok.tick (fun j _ => WJ_nn b s p j) (right_of HR.out).1 T1 false) hc)
            have BK3 : Aside0 (w2.heap[w.heap.size]? = some (.cells #[.int .i64 a, .int .i64 k, .int .i64 m] 58 (0, 0))) := ⟨F2.out.fld.other hc BK2.out (by decide) (by decide) (by decide)⟩
            clear hf hc
            go_wp2_with fail
            go_roundg k1
            case measure => omega
            case rel => exact ⟨i + 1, _, _, by first | rw [hi1] | rfl, HI', BK3, F3⟩
end Go.Proofs.Ytcgkbbfnlbjblaa.P
