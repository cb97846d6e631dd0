/- Layer 16's reference oscillator, method by method, and its whole statement of ticks and of a steady one: what each call answers and leaves in memory. Conditions: as each lemma names them. -/
import Derived.Test.YtdlpmbjnplnjnaaOscLib
namespace Go.Proofs.Ytdlpmbjnplnjnaa.P
open Go.RowKit Go.Proofs.YtdlpmbjnplnjnaaW.PrintWords Go.Proofs.YtdlpmbjnplnjnaaW.PrintLast Go.Proofs.YtdlpmbjnplnjnaaW.PrintMore
set_option linter.unusedVariables false
set_option linter.unusedSimpArgs false
theorem refRight_eq (n d : Int) : bellbuoyref16_Right.f n d = some (rightB n d) := by
  unfold bellbuoyref16_Right.f rightB
  by_cases h1 : n ≥ 1
  · rw [if_pos h1]
    by_cases h2 : n ≤ 1048576
    · rw [if_pos h2]
      by_cases h3 : d ≥ 0
      · rw [if_pos h3]; congr 1; rw [decide_eq_decide]; omega
      · rw [if_neg h3]; congr 1; symm; rw [decide_eq_false_iff_not]; omega
    · rw [if_neg h2]; congr 1; symm; rw [decide_eq_false_iff_not]; omega
  · rw [if_neg h1]; congr 1; symm; rw [decide_eq_false_iff_not]; omega

def RefNew (n d : Int) (w : World) (e : Ending) (w' : World) : Prop :=
  ∃ g, w.heap.size ≤ g ∧ e = .returned (.tuple #[.pointer (some ⟨g, 0, none⟩), .int .i64 0]) ∧ w'.heap[g]? = some (.cells #[.int .i64 n, .int .i64 d, .int .i64 0, .bool false] 37 (0, 0)) ∧ Below w.heap.size w w'
set_option maxHeartbeats 1000000 in
set_option maxRecDepth 100000 in
theorem RefNew_yes (n d : Int) (w : World) (h : bellbuoyref16_Right.f n d = some true) : Calls Try.prog 9 #[.agg #[.int .i64 n, .int .i64 d]] w (RefNew n d w) := by
  have H := Aside0.mk h; clear h
  have hu23 := Try.underlying23
  have hu37 := Try.underlying37
  go_enter Try.func9, Try.ntmps9
  go_wp2_with fail
  (with_reducible refine (bellbuoyref16_Right.calls n d true _ H.out).mono ?_)
  rintro e w1 ⟨rfl, hb1⟩
  have c0 := (blk_cell (blk_below (blk_new w (.cells #[.int .i64 n, .int .i64 d] 23)) hb1) 0).trans rfl
  have c1 := (blk_cell (blk_below (blk_new w (.cells #[.int .i64 n, .int .i64 d] 23)) hb1) 1).trans rfl
  go_wp2_with fail
  go_ret2
  exact ⟨w1.heap.size, by have := hb1.size; simp at this; omega, rfl, blk_new _ _, below_alloc (below_step (below_alloc (Below.refl _ _) _) hb1) _⟩
set_option maxHeartbeats 1000000 in
set_option maxRecDepth 100000 in
theorem RefNew_no (n d : Int) (w : World) (h : bellbuoyref16_Right.f n d = some false) : Calls Try.prog 9 #[.agg #[.int .i64 n, .int .i64 d]] w fun e w' => e = .returned (.tuple #[.pointer none, .int .i64 1]) ∧ Below w.heap.size w w' := by
  have H := Aside0.mk h; clear h
  have hu23 := Try.underlying23
  go_enter Try.func9, Try.ntmps9
  go_wp2_with fail
  (with_reducible refine (bellbuoyref16_Right.calls n d false _ H.out).mono ?_)
  rintro e w1 ⟨rfl, hb1⟩
  go_wp2_with fail
  go_ret2
  exact ⟨rfl, below_step (below_alloc (Below.refl _ _) _) hb1⟩

def RefIs (w : World) (g : Nat) (n d c : Int) (wl : Bool) : Prop := w.heap[g]? = some (.cells #[.int .i64 n, .int .i64 d, .int .i64 c, .bool wl] 37 (0, 0))
def RefPost (g : Nat) (n d r c' : Int) (wl' : Bool) (w : World) (e : Ending) (w' : World) : Prop := e = .returned (.int .i64 r) ∧ RefIs w' g n d c' wl' ∧ KeepBut w w' g none ∧ (∀ B, B ≤ g → B ≤ w.heap.size → Below B w w')
set_option maxHeartbeats 2000000 in
set_option maxRecDepth 100000 in
theorem RefStep_calls (g : Nat) (n d c t r c' : Int) (wl wl' : Bool) (w : World) (h : RefIs w g n d c wl) (hc0 : 0 ≤ c) (hc1 : c ≤ 1152921504606846976) (n0 : 1 ≤ n) (n1 : n ≤ 1048576) (d0 : 0 ≤ d) (d1 : d < n) (hs : stepF n d c wl t = (r, c', wl')) :
    Calls Try.prog 14 #[.pointer (some ⟨g, 0, none⟩), .int .i64 t] w (RefPost g n d r c' wl' w) := by
  have HI := Aside0.mk h
  obtain ⟨c0, c1, c2, c3, f0, f1, f2, f3⟩ := cells4 h
  clear h
  have hu37 := Try.underlying37
  have hu23 := Try.underlying23
  unfold stepF at hs
  by_cases h1 : t < 0
  · rw [if_pos (.inl h1)] at hs
    simp only [Prod.mk.injEq] at hs
    obtain ⟨rfl, rfl, rfl⟩ := hs
    have e1 : decide (t < 0) = true := decide_eq_true h1
    clear h1 hc0 hc1 n0 n1 d0 d1
    go_enter Try.func14, Try.ntmps14
    go_wp2
    go_ret
    exact ⟨rfl, HI.out, KeepBut.of_below (Below.refl _ _) g none, fun B _ _ => Below.refl _ _⟩
  have e1 : decide (t < 0) = false := decide_eq_false h1
  by_cases h2 : 1048576 < t
  · rw [if_pos (.inr h2)] at hs
    simp only [Prod.mk.injEq] at hs
    obtain ⟨rfl, rfl, rfl⟩ := hs
    have e2 : decide (1048576 < t) = true := decide_eq_true h2
    clear h1 h2 hc0 hc1 n0 n1 d0 d1
    go_enter Try.func14, Try.ntmps14
    go_wp2
    go_ret
    exact ⟨rfl, HI.out, KeepBut.of_below (Below.refl _ _) g none, fun B _ _ => Below.refl _ _⟩
  have e2 : decide (1048576 < t) = false := decide_eq_false h2
  rw [if_neg (by omega)] at hs
  have e3 : wrap64 (1152921504606846976 - t) = 1152921504606846976 - t := wr64 _ (by omega) (by omega)
  by_cases h3 : 1152921504606846976 < c + t
  · rw [if_pos h3] at hs
    simp only [Prod.mk.injEq] at hs
    obtain ⟨rfl, rfl, rfl⟩ := hs
    have e4 : decide (1152921504606846976 - t < c) = true := decide_eq_true (by omega)
    clear h1 h2 h3 hc0 hc1 n0 n1 d0 d1
    go_enter Try.func14, Try.ntmps14
    go_wp2
    go_ret
    exact ⟨rfl, HI.out, KeepBut.of_below (Below.refl _ _) g none, fun B _ _ => Below.refl _ _⟩
  rw [if_neg h3] at hs
  simp only [Prod.mk.injEq] at hs
  obtain ⟨rfl, rfl, rfl⟩ := hs
  have e4 : decide (1152921504606846976 - t < c) = false := decide_eq_false (by omega)
  have e5 : wrap64 (c + t) = c + t := wr64 _ (by omega) (by omega)
  have e6 : wrap64 (n - d) = n - d := wr64 _ (by omega) (by omega)
  have e7 : wrap64 (n + d) = n + d := wr64 _ (by omega) (by omega)
  have e6w : IntKind.i64.wrap (n - d) = n - d := by rw [IntKind.wrap_i64]; omega
  have e7w : IntKind.i64.wrap (n + d) = n + d := by rw [IntKind.wrap_i64]; omega
  by_cases h4 : t < n - d
  · have e8 : decide (t < n - d) = true := decide_eq_true h4
    have e9 : (wl || !decide (absd t n ≤ d)) = true := by
      rw [decide_eq_false (show ¬ absd t n ≤ d by unfold absd; split <;> omega)]; simp
    rw [e9]
    clear h1 h2 h3 h4 hc0 hc1 n0 n1 d0 d1
    go_enter Try.func14, Try.ntmps14
    go_wp2
    go_quiet (fail)
    go_wp2
    go_ret
    exact ⟨rfl, blk_put (blk_drewN (blk_put HI.out 2 (.int .i64 (c + t)) rfl) nq) 3 (.bool true) rfl, KeepBut.set_ (keep_drewN (KeepBut.set_ (KeepBut.of_below (Below.refl _ _) g none) 2 _) nq) 3 _, fun B hB _ => (pw_below_drewN ((Below.refl _ _).setCell (p := ⟨g, 2, none⟩) hB _) nq).setCell (p := ⟨g, 3, none⟩) hB _⟩
  have e8 : decide (t < n - d) = false := decide_eq_false h4
  by_cases h5 : n + d < t
  · have e9 : decide (n + d < t) = true := decide_eq_true h5
    have e10 : (wl || !decide (absd t n ≤ d)) = true := by
      rw [decide_eq_false (show ¬ absd t n ≤ d by unfold absd; split <;> omega)]; simp
    rw [e10]
    clear h1 h2 h3 h4 h5 hc0 hc1 n0 n1 d0 d1
    go_enter Try.func14, Try.ntmps14
    go_wp2
    go_quiet (fail)
    go_wp2
    go_ret
    exact ⟨rfl, blk_put (blk_drewN (blk_put HI.out 2 (.int .i64 (c + t)) rfl) nq) 3 (.bool true) rfl, KeepBut.set_ (keep_drewN (KeepBut.set_ (KeepBut.of_below (Below.refl _ _) g none) 2 _) nq) 3 _, fun B hB _ => (pw_below_drewN ((Below.refl _ _).setCell (p := ⟨g, 2, none⟩) hB _) nq).setCell (p := ⟨g, 3, none⟩) hB _⟩
  have e9 : decide (n + d < t) = false := decide_eq_false h5
  have e10 : (wl || !decide (absd t n ≤ d)) = wl := by
    rw [decide_eq_true (show absd t n ≤ d by unfold absd; split <;> omega)]; simp
  rw [e10]
  clear h1 h2 h3 h4 h5 hc0 hc1 n0 n1 d0 d1
  go_enter Try.func14, Try.ntmps14
  go_wp2
  go_quiet (fail)
  go_wp2
  go_ret
  exact ⟨rfl, blk_drewN (blk_put HI.out 2 (.int .i64 (c + t)) rfl) nq, keep_drewN (KeepBut.set_ (KeepBut.of_below (Below.refl _ _) g none) 2 _) nq, fun B hB _ => pw_below_drewN ((Below.refl _ _).setCell (p := ⟨g, 2, none⟩) hB _) nq⟩
end Go.Proofs.Ytdlpmbjnplnjnaa.P
