/- The clock's methods that change it, walked by hand: it goes on, is shifted, tuned, and read. Conditions: the numbers are within 64 bits. -/
import Derived.Test.YtgnkmpgnlpjglaaClockLib2
namespace Go.Proofs.Ytgnkmpgnlpjglaa.P
open Go.RowKit Go.Proofs.YtgnkmpgnlpjglaaW.PrintWords Go.Proofs.YtgnkmpgnlpjglaaW.PrintLast Go.Proofs.YtgnkmpgnlpjglaaW.PrintMore
set_option linter.unusedVariables false
set_option linter.unusedSimpArgs false
/-- What going on from a count answers, and what the clock is then. -/
def onV (r b k c y k' : Int) : Int × Int × Int × Int :=
  if (lookV r b k c).2 = true ∧ wi ((lookV r b k c).1 + y) = true then (0, c, (lookV r b k c).1 + y, k') else (9, r, b, k)
theorem look_ok {r b k c t : Int} (h : lookV r b k c = (t, true)) : wi t = true := by
  unfold lookV at h
  split at h
  · next x => rw [← (Prod.mk.inj h).1]; exact x.2.2
  · cases (Prod.mk.inj h).2
set_option maxHeartbeats 4000000 in
set_option maxRecDepth 100000 in
theorem on_calls (g : Nat) (r b k l c y k' e1 r1 b1 k1 : Int) (w : World) (h : At4 98 w g r b k l) (hr : In64 r) (hb : In64 b) (hk : In64 k) (hc : In64 c) (hy : In64 y) (ho : onV r b k c y k' = (e1, r1, b1, k1)) :
    Calls Try.prog 49 #[.pointer (some ⟨g, 0, none⟩), .int .i64 c, .int .i64 y, .int .i64 k'] w (P4 98 g r1 b1 k1 l (.int .i64 e1) w) := by
  have HI := Aside0.mk h
  have hu42 := Try.underlying96
  have hu44 := Try.underlying98
  rcases hl : lookV r b k c with ⟨t, ok⟩
  unfold onV at ho
  rw [hl] at ho
  have HL := Aside0.mk (fun w (h : At4 98 w g r b k l) => Look_calls g r b k l c t ok w h hr hb hk hc hl)
  cases ok with
  | false =>
    rw [if_neg (by simp)] at ho
    simp only [Prod.mk.injEq] at ho
    obtain ⟨rfl, rfl, rfl, rfl⟩ := ho
    clear h hr hb hk hc hy hl
    go_enter Try.func49, Try.ntmps49
    go_wp2_with fail
    (with_reducible refine (HL.out _ HI.out).mono ?_); rintro e w1 ⟨rfl, hb⟩
    go_wp2_with fail
    go_ret
    exact P4.same HI.out hb
  | true =>
    have hw := wi_bounds (look_ok hl)
    have hy' := hy.def
    have HA : Aside0 (exact_Add.f t y = some ((fit64 (t + y)).1, (fit64 (t + y)).2)) := ⟨Add_eq t y (by omega) (by omega) hy'.1 hy'.2⟩
    by_cases c1 : -9223372036854775808 ≤ t + y ∧ t + y ≤ 9223372036854775807
    · rw [fit64_in c1.1 c1.2] at HA
      have HW := Aside0.mk (within_eq (t + y))
      cases hv : wi (t + y) with
      | false =>
        rw [hv] at HW
        rw [if_neg (by rw [hv]; simp)] at ho
        simp only [Prod.mk.injEq] at ho
        obtain ⟨rfl, rfl, rfl, rfl⟩ := ho
        clear h hr hb hk hc hy hl hw hy' c1 hv
        go_enter Try.func49, Try.ntmps49
        go_wp2_with fail
        (with_reducible refine (HL.out _ HI.out).mono ?_); rintro e w1 ⟨rfl, hb⟩
        go_wp2_with fail
        (with_reducible refine (exact_Add.calls t y (t + y) true _ HA.out).mono ?_); rintro e w2 ⟨rfl, ⟨m2, rfl⟩⟩
        go_wp2_with fail
        (with_reducible refine (clock_within.calls (t + y) false _ HW.out).mono ?_); rintro e w3 ⟨rfl, hb3⟩
        go_wp2_with fail
        go_ret
        exact P4.same HI.out (below_step (pw_below_drewN hb m2) hb3)
      | true =>
        rw [hv] at HW
        rw [if_pos (by rw [hv]; simp)] at ho
        simp only [Prod.mk.injEq] at ho
        obtain ⟨rfl, rfl, rfl, rfl⟩ := ho
        clear h hr hb hk hc hy hl hw hy' c1 hv
        go_enter Try.func49, Try.ntmps49
        go_wp2_with fail
        (with_reducible refine (HL.out _ HI.out).mono ?_); rintro e w1 ⟨rfl, hb⟩
        go_wp2_with fail
        (with_reducible refine (exact_Add.calls t y (t + y) true _ HA.out).mono ?_); rintro e w2 ⟨rfl, ⟨m2, rfl⟩⟩
        go_wp2_with fail
        (with_reducible refine (clock_within.calls (t + y) true _ HW.out).mono ?_); rintro e w3 ⟨rfl, hb3⟩
        have BB := Aside0.mk (below_step (pw_below_drewN hb m2) hb3)
        have HI3 := Aside0.mk (At4.below HI.out BB.out)
        clear hb hb3
        obtain ⟨c0, c1, c2, c3, f0, f1, f2, f3⟩ := cells4k HI3.out
        go_wp2_with fail
        go_ret
        refine ⟨rfl, blk_put (blk_put (blk_put HI3.out 0 _ rfl) 1 _ rfl) 2 _ rfl, KeepBut.set_ (KeepBut.set_ (KeepBut.set_ (KeepBut.of_below BB.out g none) 0 _) 1 _) 2 _, fun B h1 h2 => ?_⟩
        exact (((belB BB.out h2).setCell (p := ⟨g, 0, none⟩) h1 _).setCell (p := ⟨g, 1, none⟩) h1 _).setCell (p := ⟨g, 2, none⟩) h1 _
    · rw [fit64_out c1] at HA
      rw [if_neg (by rintro ⟨_, x⟩; have := wi_bounds x; simp at this; omega)] at ho
      simp only [Prod.mk.injEq] at ho
      obtain ⟨rfl, rfl, rfl, rfl⟩ := ho
      clear h hr hb hk hc hy hl hw hy' c1
      go_enter Try.func49, Try.ntmps49
      go_wp2_with fail
      (with_reducible refine (HL.out _ HI.out).mono ?_); rintro e w1 ⟨rfl, hb⟩
      go_wp2_with fail
      (with_reducible refine (exact_Add.calls t y 0 false _ HA.out).mono ?_); rintro e w2 ⟨rfl, ⟨m2, rfl⟩⟩
      go_wp2_with fail
      go_ret
      exact P4.same HI.out (pw_below_drewN hb m2)
set_option maxHeartbeats 4000000 in
set_option maxRecDepth 100000 in
theorem Shift_calls (g : Nat) (r b k l c y e1 r1 b1 k1 : Int) (w : World) (h : At4 98 w g r b k l) (hr : In64 r) (hb : In64 b) (hk : In64 k) (hc : In64 c) (hy : In64 y) (ho : onV r b k c y k = (e1, r1, b1, k1)) :
    Calls Try.prog 55 #[.pointer (some ⟨g, 0, none⟩), .int .i64 c, .int .i64 y] w (P4 98 g r1 b1 k1 l (.int .i64 e1) w) := by
  have HA := Aside0.mk (on_calls g r b k l c y k e1 r1 b1 k1 w h hr hb hk hc hy ho)
  obtain ⟨c0, c1, c2, c3, f0, f1, f2, f3⟩ := cells4k h
  clear h hr hb hk hc hy ho
  have hu42 := Try.underlying96
  have hu44 := Try.underlying98
  go_enter Try.func55, Try.ntmps55
  go_wp2_with fail
  (with_reducible refine HA.out.mono ?_); rintro e w1 ⟨rfl, hb⟩
  go_wp2_with fail
  go_ret
  exact ⟨rfl, hb⟩
theorem Shift_nil (c y : Int) (w : World) : Calls Try.prog 55 #[.pointer none, .int .i64 c, .int .i64 y] w fun e w' => e = .returned (.int .i64 7) ∧ Below w.heap.size w w' := by
  go_enter Try.func55, Try.ntmps55
  go_wp2
  go_ret
  exact ⟨rfl, Below.refl _ _⟩
/-- What tuning answers, and what the clock is then. -/
def tuneV (r b k c k' : Int) : Int × Int × Int × Int := if 1044480 ≤ k' ∧ k' ≤ 1052672 then onV r b k c 0 k' else (1, r, b, k)
set_option maxHeartbeats 4000000 in
set_option maxRecDepth 100000 in
theorem Tune_calls (g : Nat) (r b k l c k' e1 r1 b1 k1 : Int) (w : World) (h : At4 98 w g r b k l) (hr : In64 r) (hb : In64 b) (hk : In64 k) (hc : In64 c) (ho : tuneV r b k c k' = (e1, r1, b1, k1)) :
    Calls Try.prog 17 #[.pointer (some ⟨g, 0, none⟩), .int .i64 c, .int .i64 k'] w (P4 98 g r1 b1 k1 l (.int .i64 e1) w) := by
  unfold tuneV at ho
  by_cases c1 : 1044480 ≤ k' ∧ k' ≤ 1052672
  · rw [if_pos c1] at ho
    have HA := Aside0.mk (fun w h => on_calls g r b k l c 0 k' e1 r1 b1 k1 w h hr hb hk hc (by unfold In64; omega) ho)
    have HV : Aside0 (exact_Clamp.f k' 1044480 1052672 = some k') := ⟨by unfold exact_Clamp.f mn; rw [if_neg (by omega), if_neg (by omega)]⟩
    have hne : (k' != k') = false := by simp
    have HI := Aside0.mk h
    clear h hr hb hk hc ho c1
    go_enter Try.func17, Try.ntmps17
    go_wp2_with fail
    (with_reducible refine (exact_Clamp.calls k' 1044480 1052672 k' _ HV.out).mono ?_); rintro e w1 ⟨rfl, hb1⟩
    have HI1 := Aside0.mk (At4.below HI.out hb1)
    go_wp2_with fail
    (with_reducible refine (HA.out _ HI1.out).mono ?_); rintro e w2 ⟨rfl, hI2, hK2, hB2⟩
    go_wp2_with fail
    go_ret
    exact ⟨rfl, hI2, KeepBut.trans (KeepBut.of_below hb1 g none) hK2 (.inl rfl), fun B h1 h2 => (belB hb1 h2).trans (hB2 B h1 (Nat.le_trans h2 hb1.size))⟩
  · rw [if_neg c1] at ho
    simp only [Prod.mk.injEq] at ho
    obtain ⟨rfl, rfl, rfl, rfl⟩ := ho
    obtain ⟨v, hv, hne⟩ : ∃ v, exact_Clamp.f k' 1044480 1052672 = some v ∧ (k' != v) = true := by
      unfold exact_Clamp.f mn
      by_cases h1 : k' < 1044480
      · exact ⟨1044480, by rw [if_pos h1], by simp; omega⟩
      · exact ⟨1052672, by rw [if_neg h1, if_pos (by omega)], by simp; omega⟩
    have HV := Aside0.mk hv
    have HI := Aside0.mk h
    clear h hr hb hk hc c1 hv
    go_enter Try.func17, Try.ntmps17
    go_wp2_with fail
    (with_reducible refine (exact_Clamp.calls k' 1044480 1052672 v _ HV.out).mono ?_); rintro e w1 ⟨rfl, hb1⟩
    go_wp2_with fail
    go_ret
    exact P4.same HI.out hb1
theorem Tune_nil (c y : Int) (w : World) : Calls Try.prog 17 #[.pointer none, .int .i64 c, .int .i64 y] w fun e w' => e = .returned (.int .i64 7) ∧ Below w.heap.size w w' := by
  go_enter Try.func17, Try.ntmps17
  go_wp2
  go_ret
  exact ⟨rfl, Below.refl _ _⟩
def readV (l t : Int) (ok : Bool) : Int := if (ok && decide (l < t)) = true then t else l
set_option maxHeartbeats 4000000 in
set_option maxRecDepth 100000 in
theorem Read_calls (g : Nat) (r b k l c t : Int) (ok : Bool) (w : World) (h : At4 98 w g r b k l) (hr : In64 r) (hb : In64 b) (hk : In64 k) (hc : In64 c) (hl : lookV r b k c = (t, ok)) :
    Calls Try.prog 18 #[.pointer (some ⟨g, 0, none⟩), .int .i64 c] w (P4 98 g r b k (readV l t ok) (.tuple #[.int .i64 (readV l t ok), .bool ok]) w) := by
  have HL := Aside0.mk (fun w (h : At4 98 w g r b k l) => Look_calls g r b k l c t ok w h hr hb hk hc hl)
  have HI := Aside0.mk h
  clear h hr hb hk hc hl
  have hu42 := Try.underlying96
  have hu44 := Try.underlying98
  cases ok with
  | false =>
    go_enter Try.func18, Try.ntmps18
    go_wp2_with fail
    (with_reducible refine (HL.out _ HI.out).mono ?_); rintro e w1 ⟨rfl, hb⟩
    obtain ⟨c0, c1, c2, c3, f0, f1, f2, f3⟩ := cells4k (At4.below HI.out hb)
    go_wp2_with fail
    go_ret2
    exact P4.same HI.out hb
  | true =>
    by_cases lt : l < t
    case' pos => have e0 : readV l t true = t := by unfold readV; rw [decide_eq_true lt]; rfl
    case' neg => have e0 : readV l t true = l := by unfold readV; rw [decide_eq_false lt]; rfl
    all_goals
      rw [e0]
      clear e0
      go_enter Try.func18, Try.ntmps18
      go_wp2_with fail
      (with_reducible refine (HL.out _ HI.out).mono ?_); rintro e w1 ⟨rfl, hb⟩
      have HI1 := Aside0.mk (At4.below HI.out hb)
      have BB := Aside0.mk hb
      clear hb
      obtain ⟨c0, c1, c2, c3, f0, f1, f2, f3⟩ := cells4k HI1.out
      go_wp2_with fail
      go_ret2
      exact ⟨rfl, blk_put HI1.out 3 _ rfl, KeepBut.set_ (KeepBut.of_below BB.out g none) 3 _, fun B h1 h2 => (belB BB.out h2).setCell (p := ⟨g, 3, none⟩) h1 _⟩
theorem Read_nil (c : Int) (w : World) : Calls Try.prog 18 #[.pointer none, .int .i64 c] w fun e w' => e = .returned (.tuple #[.int .i64 0, .bool false]) ∧ Below w.heap.size w w' := by
  go_enter Try.func18, Try.ntmps18
  go_wp2_with fail
  (with_reducible refine (Look_nil _ _).mono ?_); rintro e w1 ⟨rfl, hb⟩
  go_wp2
  go_ret2
  exact ⟨rfl, hb⟩
theorem Rate_calls (g : Nat) (r b k l : Int) (w : World) (h : At4 98 w g r b k l) : Calls Try.prog 20 #[.pointer (some ⟨g, 0, none⟩)] w fun e w' => e = .returned (.int .i64 k) ∧ w = w' := by
  obtain ⟨c0, c1, c2, c3, f0, f1, f2, f3⟩ := cells4k h
  clear h
  have hu42 := Try.underlying96
  have hu44 := Try.underlying98
  go_enter Try.func20, Try.ntmps20
  go_wp2
  go_ret
  exact ⟨rfl, rfl⟩
theorem Last_calls (g : Nat) (r b k l : Int) (w : World) (h : At4 98 w g r b k l) : Calls Try.prog 66 #[.pointer (some ⟨g, 0, none⟩)] w fun e w' => e = .returned (.int .i64 l) ∧ w = w' := by
  obtain ⟨c0, c1, c2, c3, f0, f1, f2, f3⟩ := cells4k h
  clear h
  have hu44 := Try.underlying98
  go_enter Try.func66, Try.ntmps66
  go_wp2
  go_ret
  exact ⟨rfl, rfl⟩
theorem Last_nil (w : World) : Calls Try.prog 66 #[.pointer none] w fun e w' => e = .returned (.int .i64 0) ∧ w = w' := by
  go_enter Try.func66, Try.ntmps66
  go_wp2
  go_ret
  exact ⟨rfl, rfl⟩
end Go.Proofs.Ytgnkmpgnlpjglaa.P
