/- A node's tick by the document. Conditions: the ranges that each lemma names. -/
import Derived.Test.YtcgkbbfnlbjblaaRankWaitsWalk
namespace Go.Proofs.Ytcgkbbfnlbjblaa.P
open Go.RowKit Go.Proofs.YtcgkbbfnlbjblaaW.PrintWords Go.Proofs.YtcgkbbfnlbjblaaW.PrintLast Go.Proofs.YtcgkbbfnlbjblaaW.PrintMore
set_option linter.unusedVariables false
set_option linter.unusedSimpArgs false
def RAt (w : World) (g : Nat) (b s p r : Int) (n : Nd) : Prop := w.heap[g]? = some (.cells #[.int .i64 b, .int .i64 s, .int .i64 p, .int .i64 r, .bool n.m, .int .i64 n.i, .int .i64 n.q] 47 (0, 0))
theorem RAt.cells {w : World} {g : Nat} {b s p r : Int} {n : Nd} (h : RAt w g b s p r n) : w.cell? ⟨g, 0, none⟩ = some (.int .i64 b) ∧ w.cell? ⟨g, 1, none⟩ = some (.int .i64 s) ∧ w.cell? ⟨g, 2, none⟩ = some (.int .i64 p) ∧ w.cell? ⟨g, 3, none⟩ = some (.int .i64 r) ∧ w.cell? ⟨g, 4, none⟩ = some (.bool n.m) ∧ w.cell? ⟨g, 5, none⟩ = some (.int .i64 n.i) ∧ w.cell? ⟨g, 6, none⟩ = some (.int .i64 n.q) :=
  ⟨(blk_cell h 0).trans rfl, (blk_cell h 1).trans rfl, (blk_cell h 2).trans rfl, (blk_cell h 3).trans rfl, (blk_cell h 4).trans rfl, (blk_cell h 5).trans rfl, (blk_cell h 6).trans rfl⟩
theorem RAt.frz {w : World} {g : Nat} {b s p r : Int} {n : Nd} (h : RAt w g b s p r n) : w.frozen? ⟨g, 4, none⟩ = false ∧ w.frozen? ⟨g, 5, none⟩ = false ∧ w.frozen? ⟨g, 6, none⟩ = false :=
  ⟨blk_frozen h 4, blk_frozen h 5, blk_frozen h 6⟩
theorem RAt.setm {w : World} {g : Nat} {b s p r : Int} {n : Nd} (h : RAt w g b s p r n) (x : Bool) : RAt (w.setCell ⟨g, 4, none⟩ (.bool x)) g b s p r ⟨x, n.i, n.q⟩ := by
  have := blk_set h 4 (.bool x)
  simpa [RAt] using this
theorem RAt.seti {w : World} {g : Nat} {b s p r : Int} {n : Nd} (h : RAt w g b s p r n) (x : Int) : RAt (w.setCell ⟨g, 5, none⟩ (.int .i64 x)) g b s p r ⟨n.m, x, n.q⟩ := by
  have := blk_set h 5 (.int .i64 x)
  simpa [RAt] using this
theorem RAt.setq {w : World} {g : Nat} {b s p r : Int} {n : Nd} (h : RAt w g b s p r n) (x : Int) : RAt (w.setCell ⟨g, 6, none⟩ (.int .i64 x)) g b s p r ⟨n.m, n.i, x⟩ := by
  have := blk_set h 6 (.int .i64 x)
  simpa [RAt] using this
theorem any_not {f : Int → Bool} {zs : List Int} {j : Nat} (hj : j < zs.length) (h : zs.any f = false) : f (rd zs (j : Int)) = false := by
  cases e : f (rd zs (j : Int))
  · rfl
  · rw [any_at hj e] at h; cases h
theorem RTick_nil (v : Value) (w : World) : Calls Try.prog 19 #[.pointer none, v] w fun e w' => e = .returned (.bool false) ∧ Drawn0 w w' := by
  go_enter Try.func19, Try.ntmps19
  go_wp2_with fail
  go_ret
  exact ⟨rfl, Drawn0.refl _⟩

set_option maxHeartbeats 8000000 in
set_option maxRecDepth 100000 in
theorem RTick_hears (g : Nat) (b s p r : Int) (n : Nd) (A : Option Addr) (c : Nat) (zs : List Int) (w : World) (h : RAt w g b s p r n) (hl : zs.length ≤ c) (hz : Kd.C (Kd.int .i64) w A zs.length zs) (ha : zs.any (betterB r) = true) :
    Calls Try.prog 19 #[.pointer (some ⟨g, 0, none⟩), .slice A zs.length c] w fun e w' => e = .returned (.bool false) ∧ RAt w' g b s p r ⟨false, 0, n.q⟩ ∧ Ch (fun k => k = g) w w' := by
  have N0 := Aside0.mk h
  have HZ := Aside0.mk hz
  have hlen := hz.2.1
  have HL := Aside0.mk hlen
  have HA := Aside0.mk ha
  have hu28 := Try.underlying28
  clear h hl hz ha hlen
  go_enter Try.func19, Try.ntmps19
  go_wp2_with fail
  go_loopg [5] zs.length (fun kq v w' => ∃ j : Nat, v = .int .i64 (j : Int) ∧ Aside0 (j + kq = zs.length) ∧ Aside0 ((zs.take j).any (betterB r) = false) ∧ Drawn0 w w')
  case atStart => exact ⟨0, rfl, ⟨by omega⟩, ⟨by simp⟩, Drawn0.refl _⟩
  case round =>
    obtain ⟨j, rfl, HJ, HT, ⟨m, rfl⟩⟩ := hrel
    have N1 : Aside0 (RAt (w.drewN m) g b s p r n) := ⟨N0.out⟩
    cases gk with
    | zero =>
      have hAF : zs.any (betterB r) = false := by
        have := HT.out
        rwa [List.take_of_length_le (by have := HJ.out; omega)] at this
      exact absurd hAF (by rw [HA.out]; decide)
    | succ k1 =>
      have hj : j < zs.length := by have := HJ.out; omega
      have u1 : decide ((j : Int) < (zs.length : Int)) = true := decide_eq_true (by omega)
      have u1' : decide (j < zs.length) = true := decide_eq_true hj
      obtain ⟨ad, e1, hx⟩ := Kd.at_int HZ.out (j : Int) (by omega) (by omega)
      cases e1
      have u2 : (0 ≤ (j : Int)) = True := eq_true (by omega)
      have u3 : ((j : Int) < (zs.length : Int)) = True := eq_true (by omega)
      have HJL := Aside0.mk hj
      have hx' : w.cell? (ad.add j) = some (.int .i64 (rd zs (j : Int))) := hx
      have c3 : w.cell? ⟨g, 3, none⟩ = some (.int .i64 r) := N0.out.cells.2.2.2.1
      clear hj hx
      by_cases a1 : 0 ≤ rd zs (j : Int)
      · have v1 : decide (rd zs (j : Int) ≥ 0) = true := decide_eq_true a1
        have v2 : decide (0 ≤ rd zs (j : Int)) = true := decide_eq_true a1
        by_cases a2 : rd zs (j : Int) < r
        · have v3 : decide (rd zs (j : Int) < r) = true := decide_eq_true a2
          have hB : betterB r (rd zs (j : Int)) = true := by rw [betterB, v2, v3]; rfl
          clear a1 a2 hB
          obtain ⟨c0, c1, c2, c3', c4, c5, c6⟩ := RAt.cells N0.out
          obtain ⟨f4, f5, f6⟩ := RAt.frz N0.out
          go_wp2_with fail
          repeat (go_quiet (fail); try go_wp2)
          go_ret
          exact ⟨rfl, RAt.seti (RAt.setm (n := n) (show RAt (w.drewN _) g b s p r n from N0.out) false) 0, ((((Ch.refl _ _).drewN _).setg _).setg _)⟩
        · have v3 : decide (rd zs (j : Int) < r) = false := decide_eq_false a2
          have hB : betterB r (rd zs (j : Int)) = false := by rw [betterB, v2, v3]; rfl
          have HB := Aside0.mk hB
          clear a1 a2 hB
          go_wp2_with fail
          repeat (go_quiet (fail); try go_wp2)
          go_roundg k1
          case measure => omega
          case rel =>
            refine ⟨j + 1, ?_, ⟨by have := HJ.out; omega⟩, ⟨?_⟩, by repeat (first | exact Drawn0.refl _ | apply Drawn0.step)⟩
            · rw [i64w _ (by omega) (by have := HJL.out; have := HL.out; omega)]; rfl
            · rw [any_take HJL.out, HT.out, HB.out]; rfl
      · have v1 : decide (rd zs (j : Int) ≥ 0) = false := decide_eq_false a1
        have v2 : decide (0 ≤ rd zs (j : Int)) = false := decide_eq_false a1
        have hB : betterB r (rd zs (j : Int)) = false := by rw [betterB, v2]; rfl
        have HB := Aside0.mk hB
        clear a1 hB
        go_wp2_with fail
        repeat (go_quiet (fail); try go_wp2)
        go_roundg k1
        case measure => omega
        case rel =>
          refine ⟨j + 1, ?_, ⟨by have := HJ.out; omega⟩, ⟨?_⟩, by repeat (first | exact Drawn0.refl _ | apply Drawn0.step)⟩
          · rw [i64w _ (by omega) (by have := HJL.out; have := HL.out; omega)]; rfl
          · rw [any_take HJL.out, HT.out, HB.out]; rfl

set_option maxHeartbeats 8000000 in
set_option maxRecDepth 100000 in
theorem RTick_leads (g : Nat) (b s p r : Int) (n : Nd) (A : Option Addr) (c : Nat) (zs : List Int) (w : World) (h : RAt w g b s p r n) (hl : zs.length ≤ c) (hz : Kd.C (Kd.int .i64) w A zs.length zs) (ha : zs.any (betterB r) = false) (hm : n.m = true) (q0 : 0 ≤ n.q) (q1 : n.q < p) (p1 : p ≤ 1000) :
    Calls Try.prog 19 #[.pointer (some ⟨g, 0, none⟩), .slice A zs.length c] w fun e w' => e = .returned (.bool (decide (n.q + 1 = p))) ∧ RAt w' g b s p r ⟨true, n.i, if n.q + 1 = p then 0 else n.q + 1⟩ ∧ Ch (fun k => k = g) w w' := by
  have N0 := Aside0.mk h
  have HZ := Aside0.mk hz
  have hlen := hz.2.1
  have HL := Aside0.mk hlen
  have HA := Aside0.mk ha
  have hu28 := Try.underlying28
  have ei := i64w (n.q + 1) (by omega) (by omega)
  clear h hl hz ha hlen
  go_enter Try.func19, Try.ntmps19
  go_wp2_with fail
  go_loopg [5] zs.length (fun kq v w' => ∃ j : Nat, v = .int .i64 (j : Int) ∧ Aside0 (j + kq = zs.length) ∧ Aside0 ((zs.take j).any (betterB r) = false) ∧ Drawn0 w w')
  case atStart => exact ⟨0, rfl, ⟨by omega⟩, ⟨by simp⟩, Drawn0.refl _⟩
  case round =>
    obtain ⟨j, rfl, HJ, HT, ⟨m, rfl⟩⟩ := hrel
    have N1 : Aside0 (RAt (w.drewN m) g b s p r n) := ⟨N0.out⟩
    cases gk with
    | zero =>
      have hAF : zs.any (betterB r) = false := by
        have := HT.out
        rwa [List.take_of_length_le (by have := HJ.out; omega)] at this
      have u1 : decide ((j : Int) < (zs.length : Int)) = false := decide_eq_false (by have := HJ.out; omega)
      have u1' : decide (j < zs.length) = false := decide_eq_false (by have := HJ.out; omega)
      obtain ⟨c0, c1, c2, c3, c4, c5, c6⟩ := RAt.cells N0.out
      obtain ⟨f4, f5, f6⟩ := RAt.frz N0.out
      rw [hm] at c4
      clear hAF
      have NQ : Aside0 (RAt ((w.drewN m).setCell ⟨g, 6, none⟩ (.int .i64 (n.q + 1))) g b s p r ⟨true, n.i, n.q + 1⟩) := ⟨by have := N1.out.setq (n.q + 1); rw [hm] at this; exact this⟩
      have e2 := NQ.out.cells.2.2.1
      have e6 := NQ.out.cells.2.2.2.2.2.2
      have d6 := NQ.out.frz.2.2
      by_cases hq : n.q + 1 = p
      · have g2 := eq_true hq
        have g1 : (n.q + 1 == p) = true := beq_iff_eq.mpr hq
        have HE := Aside0.mk (And.intro (decide_eq_true hq) hq)
        clear hq
        go_wp2_with fail
        repeat (go_quiet (fail); try go_wp2)
        all_goals have NP : RAt ((w.drewN m).setCell ⟨g, 6, none⟩ (.int .i64 p)) g b s p r ⟨true, n.i, p⟩ := by have := NQ.out; rw [HE.out.2] at this; exact this
        all_goals go_ret
        all_goals (first
          | exact ⟨rfl, RAt.setq (n := ⟨true, n.i, p⟩) (show RAt (((w.drewN m).setCell ⟨g, 6, none⟩ (.int .i64 p)).drewN _) g b s p r ⟨true, n.i, p⟩ from NP) 0, (((((Ch.refl _ _).drewN _).setg _).drewN _).setg _)⟩
          | exact ⟨rfl, RAt.setq (n := ⟨true, n.i, n.q + 1⟩) (show RAt (((w.drewN m).setCell ⟨g, 6, none⟩ (.int .i64 (n.q + 1))).drewN _) g b s p r ⟨true, n.i, n.q + 1⟩ from NQ.out) 0, (((((Ch.refl _ _).drewN _).setg _).drewN _).setg _)⟩)
      · have g2 := eq_false hq
        have g1 : (n.q + 1 == p) = false := beq_eq_false_iff_ne.mpr hq
        have HE := Aside0.mk (And.intro (decide_eq_false hq) hq)
        clear hq
        go_wp2_with fail
        repeat (go_quiet (fail); try go_wp2)
        all_goals go_ret
        all_goals (first | exact ⟨rfl, NQ.out, (((Ch.refl _ _).drewN _).setg _).drewN _⟩ | exact absurd (by assumption) HE.out.2)
    | succ k1 =>
      have hj : j < zs.length := by have := HJ.out; omega
      have u1 : decide ((j : Int) < (zs.length : Int)) = true := decide_eq_true (by omega)
      have u1' : decide (j < zs.length) = true := decide_eq_true hj
      obtain ⟨ad, e1, hx⟩ := Kd.at_int HZ.out (j : Int) (by omega) (by omega)
      cases e1
      have u2 : (0 ≤ (j : Int)) = True := eq_true (by omega)
      have u3 : ((j : Int) < (zs.length : Int)) = True := eq_true (by omega)
      have HJL := Aside0.mk hj
      have hx' : w.cell? (ad.add j) = some (.int .i64 (rd zs (j : Int))) := hx
      have c3 : w.cell? ⟨g, 3, none⟩ = some (.int .i64 r) := N0.out.cells.2.2.2.1
      clear hj hx
      by_cases a1 : 0 ≤ rd zs (j : Int)
      · have v1 : decide (rd zs (j : Int) ≥ 0) = true := decide_eq_true a1
        have v2 : decide (0 ≤ rd zs (j : Int)) = true := decide_eq_true a1
        by_cases a2 : rd zs (j : Int) < r
        · have v3 : decide (rd zs (j : Int) < r) = true := decide_eq_true a2
          have hB : betterB r (rd zs (j : Int)) = true := by rw [betterB, v2, v3]; rfl
          exact absurd (any_at HJL.out hB) (by rw [HA.out]; decide)
        · have v3 : decide (rd zs (j : Int) < r) = false := decide_eq_false a2
          have hB : betterB r (rd zs (j : Int)) = false := by rw [betterB, v2, v3]; rfl
          have HB := Aside0.mk hB
          clear a1 a2 hB
          go_wp2_with fail
          repeat (go_quiet (fail); try go_wp2)
          go_roundg k1
          case measure => omega
          case rel =>
            refine ⟨j + 1, ?_, ⟨by have := HJ.out; omega⟩, ⟨?_⟩, by repeat (first | exact Drawn0.refl _ | apply Drawn0.step)⟩
            · rw [i64w _ (by omega) (by have := HJL.out; have := HL.out; omega)]; rfl
            · rw [any_take HJL.out, HT.out, HB.out]; rfl
      · have v1 : decide (rd zs (j : Int) ≥ 0) = false := decide_eq_false a1
        have v2 : decide (0 ≤ rd zs (j : Int)) = false := decide_eq_false a1
        have hB : betterB r (rd zs (j : Int)) = false := by rw [betterB, v2]; rfl
        have HB := Aside0.mk hB
        clear a1 hB
        go_wp2_with fail
        repeat (go_quiet (fail); try go_wp2)
        go_roundg k1
        case measure => omega
        case rel =>
          refine ⟨j + 1, ?_, ⟨by have := HJ.out; omega⟩, ⟨?_⟩, by repeat (first | exact Drawn0.refl _ | apply Drawn0.step)⟩
          · rw [i64w _ (by omega) (by have := HJL.out; have := HL.out; omega)]; rfl
          · rw [any_take HJL.out, HT.out, HB.out]; rfl

set_option maxHeartbeats 8000000 in
set_option maxRecDepth 100000 in
theorem RTick_waits (g : Nat) (b s p r wt : Int) (n : Nd) (A : Option Addr) (c : Nat) (zs : List Int) (w : World) (h : RAt w g b s p r n) (hl : zs.length ≤ c) (hz : Kd.C (Kd.int .i64) w A zs.length zs) (ha : zs.any (betterB r) = false) (hm : n.m = false) (i0 : 0 ≤ n.i) (i1 : n.i < 4611686018427387904) (hw : bellbuoyref21_Wait.f b s p r = some wt) (hi : ¬ wt < n.i + 1) :
    Calls Try.prog 19 #[.pointer (some ⟨g, 0, none⟩), .slice A zs.length c] w fun e w' => e = .returned (.bool false) ∧ RAt w' g b s p r ⟨false, n.i + 1, n.q⟩ ∧ Ch (fun k => k = g) w w' := by
  have N0 := Aside0.mk h
  have HZ := Aside0.mk hz
  have hlen := hz.2.1
  have HL := Aside0.mk hlen
  have HA := Aside0.mk ha
  have hu28 := Try.underlying28
  have ei := i64w (n.i + 1) (by omega) (by omega)
  have HW := Aside0.mk hw
  have gi : decide (n.i + 1 ≤ wt) = true := decide_eq_true (by omega)
  clear hw i0 i1 hi
  clear h hl hz ha hlen
  go_enter Try.func19, Try.ntmps19
  go_wp2_with fail
  go_loopg [5] zs.length (fun kq v w' => ∃ j : Nat, v = .int .i64 (j : Int) ∧ Aside0 (j + kq = zs.length) ∧ Aside0 ((zs.take j).any (betterB r) = false) ∧ Drawn0 w w')
  case atStart => exact ⟨0, rfl, ⟨by omega⟩, ⟨by simp⟩, Drawn0.refl _⟩
  case round =>
    obtain ⟨j, rfl, HJ, HT, ⟨m, rfl⟩⟩ := hrel
    have N1 : Aside0 (RAt (w.drewN m) g b s p r n) := ⟨N0.out⟩
    cases gk with
    | zero =>
      have hAF : zs.any (betterB r) = false := by
        have := HT.out
        rwa [List.take_of_length_le (by have := HJ.out; omega)] at this
      have u1 : decide ((j : Int) < (zs.length : Int)) = false := decide_eq_false (by have := HJ.out; omega)
      have u1' : decide (j < zs.length) = false := decide_eq_false (by have := HJ.out; omega)
      obtain ⟨c0, c1, c2, c3, c4, c5, c6⟩ := RAt.cells N0.out
      obtain ⟨f4, f5, f6⟩ := RAt.frz N0.out
      rw [hm] at c4
      clear hAF
      have NX : Aside0 (RAt ((w.drewN m).setCell ⟨g, 5, none⟩ (.int .i64 (n.i + 1))) g b s p r ⟨false, n.i + 1, n.q⟩) := ⟨by have := N1.out.seti (n.i + 1); rw [hm] at this; exact this⟩
      have CX : Aside0 (Ch (fun k => k = g) w ((w.drewN m).setCell ⟨g, 5, none⟩ (.int .i64 (n.i + 1)))) := ⟨((Ch.refl _ _).drewN m).setg _⟩
      obtain ⟨e0, e1, e2, e3, e4, e5, e6⟩ := RAt.cells NX.out
      go_upto_region 12 with (fail)
      clear c0 c1 c2 c3 c4 c5 c6 f4 f5 f6
      go_region_held3 (fun w' => w'.cell? ⟨g, 0, none⟩ = some (.int .i64 b) ∧ w'.cell? ⟨g, 1, none⟩ = some (.int .i64 s) ∧ w'.cell? ⟨g, 2, none⟩ = some (.int .i64 p) ∧ w'.cell? ⟨g, 3, none⟩ = some (.int .i64 r) ∧ w'.cell? ⟨g, 5, none⟩ = some (.int .i64 (n.i + 1))) (go_keep)
        (first
          | (go_at_call 13; (with_reducible refine (bellbuoyref21_Wait.calls b s p r wt _ HW.out).mono ?_); rintro e w5 ⟨rfl, hb5⟩; have N5 : Aside0 (RAt w5 g b s p r ⟨false, n.i + 1, n.q⟩) := ⟨blk_below (by first | exact NX.out | exact blk_drew NX.out) hb5⟩; have C5 : Aside0 (Ch (fun k => k = g) w w5) := ⟨(by first | exact CX.out.step hb5 | exact CX.out.drew.step hb5)⟩; clear hb5; obtain ⟨d0, d1, d2, d3, d4, d5, d6⟩ := N5.out.cells))
      all_goals (go_wp2_with fail; go_ret; exact ⟨rfl, (by first | exact N5.out | exact blk_drew N5.out), (by first | exact C5.out | exact C5.out.drew)⟩)
    | succ k1 =>
      have hj : j < zs.length := by have := HJ.out; omega
      have u1 : decide ((j : Int) < (zs.length : Int)) = true := decide_eq_true (by omega)
      have u1' : decide (j < zs.length) = true := decide_eq_true hj
      obtain ⟨ad, e1, hx⟩ := Kd.at_int HZ.out (j : Int) (by omega) (by omega)
      cases e1
      have u2 : (0 ≤ (j : Int)) = True := eq_true (by omega)
      have u3 : ((j : Int) < (zs.length : Int)) = True := eq_true (by omega)
      have HJL := Aside0.mk hj
      have hx' : w.cell? (ad.add j) = some (.int .i64 (rd zs (j : Int))) := hx
      have c3 : w.cell? ⟨g, 3, none⟩ = some (.int .i64 r) := N0.out.cells.2.2.2.1
      clear hj hx
      by_cases a1 : 0 ≤ rd zs (j : Int)
      · have v1 : decide (rd zs (j : Int) ≥ 0) = true := decide_eq_true a1
        have v2 : decide (0 ≤ rd zs (j : Int)) = true := decide_eq_true a1
        by_cases a2 : rd zs (j : Int) < r
        · have v3 : decide (rd zs (j : Int) < r) = true := decide_eq_true a2
          have hB : betterB r (rd zs (j : Int)) = true := by rw [betterB, v2, v3]; rfl
          exact absurd (any_at HJL.out hB) (by rw [HA.out]; decide)
        · have v3 : decide (rd zs (j : Int) < r) = false := decide_eq_false a2
          have hB : betterB r (rd zs (j : Int)) = false := by rw [betterB, v2, v3]; rfl
          have HB := Aside0.mk hB
          clear a1 a2 hB
          go_wp2_with fail
          repeat (go_quiet (fail); try go_wp2)
          go_roundg k1
          case measure => omega
          case rel =>
            refine ⟨j + 1, ?_, ⟨by have := HJ.out; omega⟩, ⟨?_⟩, by repeat (first | exact Drawn0.refl _ | apply Drawn0.step)⟩
            · rw [i64w _ (by omega) (by have := HJL.out; have := HL.out; omega)]; rfl
            · rw [any_take HJL.out, HT.out, HB.out]; rfl
      · have v1 : decide (rd zs (j : Int) ≥ 0) = false := decide_eq_false a1
        have v2 : decide (0 ≤ rd zs (j : Int)) = false := decide_eq_false a1
        have hB : betterB r (rd zs (j : Int)) = false := by rw [betterB, v2]; rfl
        have HB := Aside0.mk hB
        clear a1 hB
        go_wp2_with fail
        repeat (go_quiet (fail); try go_wp2)
        go_roundg k1
        case measure => omega
        case rel =>
          refine ⟨j + 1, ?_, ⟨by have := HJ.out; omega⟩, ⟨?_⟩, by repeat (first | exact Drawn0.refl _ | apply Drawn0.step)⟩
          · rw [i64w _ (by omega) (by have := HJL.out; have := HL.out; omega)]; rfl
          · rw [any_take HJL.out, HT.out, HB.out]; rfl

set_option maxHeartbeats 8000000 in
set_option maxRecDepth 100000 in
theorem RTick_rises (g : Nat) (b s p r wt : Int) (n : Nd) (A : Option Addr) (c : Nat) (zs : List Int) (w : World) (h : RAt w g b s p r n) (hl : zs.length ≤ c) (hz : Kd.C (Kd.int .i64) w A zs.length zs) (ha : zs.any (betterB r) = false) (hm : n.m = false) (i0 : 0 ≤ n.i) (i1 : n.i < 4611686018427387904) (hw : bellbuoyref21_Wait.f b s p r = some wt) (hi : wt < n.i + 1) :
    Calls Try.prog 19 #[.pointer (some ⟨g, 0, none⟩), .slice A zs.length c] w fun e w' => e = .returned (.bool true) ∧ RAt w' g b s p r ⟨true, 0, 0⟩ ∧ Ch (fun k => k = g) w w' := by
  have N0 := Aside0.mk h
  have HZ := Aside0.mk hz
  have hlen := hz.2.1
  have HL := Aside0.mk hlen
  have HA := Aside0.mk ha
  have hu28 := Try.underlying28
  have ei := i64w (n.i + 1) (by omega) (by omega)
  have HW := Aside0.mk hw
  have gi : decide (n.i + 1 ≤ wt) = false := decide_eq_false (by omega)
  clear hw i0 i1 hi
  clear h hl hz ha hlen
  go_enter Try.func19, Try.ntmps19
  go_wp2_with fail
  go_loopg [5] zs.length (fun kq v w' => ∃ j : Nat, v = .int .i64 (j : Int) ∧ Aside0 (j + kq = zs.length) ∧ Aside0 ((zs.take j).any (betterB r) = false) ∧ Drawn0 w w')
  case atStart => exact ⟨0, rfl, ⟨by omega⟩, ⟨by simp⟩, Drawn0.refl _⟩
  case round =>
    obtain ⟨j, rfl, HJ, HT, ⟨m, rfl⟩⟩ := hrel
    have N1 : Aside0 (RAt (w.drewN m) g b s p r n) := ⟨N0.out⟩
    cases gk with
    | zero =>
      have hAF : zs.any (betterB r) = false := by
        have := HT.out
        rwa [List.take_of_length_le (by have := HJ.out; omega)] at this
      have u1 : decide ((j : Int) < (zs.length : Int)) = false := decide_eq_false (by have := HJ.out; omega)
      have u1' : decide (j < zs.length) = false := decide_eq_false (by have := HJ.out; omega)
      obtain ⟨c0, c1, c2, c3, c4, c5, c6⟩ := RAt.cells N0.out
      obtain ⟨f4, f5, f6⟩ := RAt.frz N0.out
      rw [hm] at c4
      clear hAF
      have NX : Aside0 (RAt ((w.drewN m).setCell ⟨g, 5, none⟩ (.int .i64 (n.i + 1))) g b s p r ⟨false, n.i + 1, n.q⟩) := ⟨by have := N1.out.seti (n.i + 1); rw [hm] at this; exact this⟩
      have CX : Aside0 (Ch (fun k => k = g) w ((w.drewN m).setCell ⟨g, 5, none⟩ (.int .i64 (n.i + 1)))) := ⟨((Ch.refl _ _).drewN m).setg _⟩
      obtain ⟨e0, e1, e2, e3, e4, e5, e6⟩ := RAt.cells NX.out
      go_upto_region 12 with (fail)
      clear c0 c1 c2 c3 c4 c5 c6 f4 f5 f6
      go_region_held3 (fun w' => w'.cell? ⟨g, 0, none⟩ = some (.int .i64 b) ∧ w'.cell? ⟨g, 1, none⟩ = some (.int .i64 s) ∧ w'.cell? ⟨g, 2, none⟩ = some (.int .i64 p) ∧ w'.cell? ⟨g, 3, none⟩ = some (.int .i64 r) ∧ w'.cell? ⟨g, 5, none⟩ = some (.int .i64 (n.i + 1))) (go_keep)
        (first
          | (go_at_call 13; (with_reducible refine (bellbuoyref21_Wait.calls b s p r wt _ HW.out).mono ?_); rintro e w5 ⟨rfl, hb5⟩; have N5 : Aside0 (RAt w5 g b s p r ⟨false, n.i + 1, n.q⟩) := ⟨blk_below (by first | exact NX.out | exact blk_drew NX.out) hb5⟩; have C5 : Aside0 (Ch (fun k => k = g) w w5) := ⟨(by first | exact CX.out.step hb5 | exact CX.out.drew.step hb5)⟩; clear hb5; obtain ⟨d0, d1, d2, d3, d4, d5, d6⟩ := N5.out.cells))
      all_goals (obtain ⟨f4, f5, f6⟩ := RAt.frz N5.out; go_wp2_with fail; go_ret; exact ⟨rfl, (by first | exact ((N5.out.setm true).seti 0).setq 0 | exact (((RAt.setm (n := ⟨false, n.i + 1, n.q⟩) (blk_drew N5.out) true).seti 0).setq 0)), (by first | exact (((C5.out.setg _).setg _).setg _) | exact (((C5.out.drew.setg _).setg _).setg _))⟩)
    | succ k1 =>
      have hj : j < zs.length := by have := HJ.out; omega
      have u1 : decide ((j : Int) < (zs.length : Int)) = true := decide_eq_true (by omega)
      have u1' : decide (j < zs.length) = true := decide_eq_true hj
      obtain ⟨ad, e1, hx⟩ := Kd.at_int HZ.out (j : Int) (by omega) (by omega)
      cases e1
      have u2 : (0 ≤ (j : Int)) = True := eq_true (by omega)
      have u3 : ((j : Int) < (zs.length : Int)) = True := eq_true (by omega)
      have HJL := Aside0.mk hj
      have hx' : w.cell? (ad.add j) = some (.int .i64 (rd zs (j : Int))) := hx
      have c3 : w.cell? ⟨g, 3, none⟩ = some (.int .i64 r) := N0.out.cells.2.2.2.1
      clear hj hx
      by_cases a1 : 0 ≤ rd zs (j : Int)
      · have v1 : decide (rd zs (j : Int) ≥ 0) = true := decide_eq_true a1
        have v2 : decide (0 ≤ rd zs (j : Int)) = true := decide_eq_true a1
        by_cases a2 : rd zs (j : Int) < r
        · have v3 : decide (rd zs (j : Int) < r) = true := decide_eq_true a2
          have hB : betterB r (rd zs (j : Int)) = true := by rw [betterB, v2, v3]; rfl
          exact absurd (any_at HJL.out hB) (by rw [HA.out]; decide)
        · have v3 : decide (rd zs (j : Int) < r) = false := decide_eq_false a2
          have hB : betterB r (rd zs (j : Int)) = false := by rw [betterB, v2, v3]; rfl
          have HB := Aside0.mk hB
          clear a1 a2 hB
          go_wp2_with fail
          repeat (go_quiet (fail); try go_wp2)
          go_roundg k1
          case measure => omega
          case rel =>
            refine ⟨j + 1, ?_, ⟨by have := HJ.out; omega⟩, ⟨?_⟩, by repeat (first | exact Drawn0.refl _ | apply Drawn0.step)⟩
            · rw [i64w _ (by omega) (by have := HJL.out; have := HL.out; omega)]; rfl
            · rw [any_take HJL.out, HT.out, HB.out]; rfl
      · have v1 : decide (rd zs (j : Int) ≥ 0) = false := decide_eq_false a1
        have v2 : decide (0 ≤ rd zs (j : Int)) = false := decide_eq_false a1
        have hB : betterB r (rd zs (j : Int)) = false := by rw [betterB, v2]; rfl
        have HB := Aside0.mk hB
        clear a1 hB
        go_wp2_with fail
        repeat (go_quiet (fail); try go_wp2)
        go_roundg k1
        case measure => omega
        case rel =>
          refine ⟨j + 1, ?_, ⟨by have := HJ.out; omega⟩, ⟨?_⟩, by repeat (first | exact Drawn0.refl _ | apply Drawn0.step)⟩
          · rw [i64w _ (by omega) (by have := HJL.out; have := HL.out; omega)]; rfl
          · rw [any_take HJL.out, HT.out, HB.out]; rfl

end Go.Proofs.Ytcgkbbfnlbjblaa.P
