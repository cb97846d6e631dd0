/- The oscillators of both sides, walked by hand: what each method answers and leaves in memory. Conditions: each lemma names them. -/
import Derived.Test.YtgnkmpgnlpjglaaAccordClk
namespace Go.Proofs.Ytgnkmpgnlpjglaa.P
open Go.RowKit Go.Proofs.YtgnkmpgnlpjglaaW.PrintWords Go.Proofs.YtgnkmpgnlpjglaaW.PrintLast Go.Proofs.YtgnkmpgnlpjglaaW.PrintMore
set_option linter.unusedVariables false
set_option linter.unusedSimpArgs false
def absd (a b : Int) : Int := if a < b then b - a else a - b
theorem Dist_eq (a b : Int) (a0 : -9223372036854775808 ≤ a) (a1 : a ≤ 9223372036854775807) (b0 : -9223372036854775808 ≤ b) (b1 : b ≤ 9223372036854775807) : exact_Dist.f a b = some (fit64 (absd a b)) := by
  unfold exact_Dist.f mx mn absd
  by_cases h : a < b
  · rw [if_pos h, if_pos h, if_neg (by omega), Sub_eq _ _ b0 b1 a0 a1]
    simp only [Option.bind_some]
  · rw [if_neg h, if_neg h]
    by_cases h2 : b < a
    · rw [if_pos h2, Sub_eq _ _ a0 a1 b0 b1]
      simp only [Option.bind_some]
    · obtain rfl : a = b := by omega
      rw [if_neg h2, Sub_eq _ _ a0 a1 a0 a1]
      simp only [Option.bind_some]
theorem cells4 {w : World} {g : Nat} {a b c d : Value} {t : TypeId} (h : w.heap[g]? = some (.cells #[a, b, c, d] t (0, 0))) :
    w.cell? ⟨g, 0, none⟩ = some a ∧ w.cell? ⟨g, 1, none⟩ = some b ∧ w.cell? ⟨g, 2, none⟩ = some c ∧ w.cell? ⟨g, 3, none⟩ = some d ∧
    w.frozen? ⟨g, 0, none⟩ = false ∧ w.frozen? ⟨g, 1, none⟩ = false ∧ w.frozen? ⟨g, 2, none⟩ = false ∧ w.frozen? ⟨g, 3, none⟩ = false :=
  ⟨(blk_cell h 0).trans rfl, (blk_cell h 1).trans rfl, (blk_cell h 2).trans rfl, (blk_cell h 3).trans rfl, blk_frozen h 0, blk_frozen h 1, blk_frozen h 2, blk_frozen h 3⟩

def rightB (n d : Int) : Bool := decide (1 ≤ n ∧ n ≤ 1048576 ∧ 0 ≤ d ∧ d < n)
theorem Right_eq (n d : Int) (n0 : -9223372036854775808 ≤ n) (n1 : n ≤ 9223372036854775807) : osc_Right.f n d = some (rightB n d) := by
  unfold osc_Right.f exact_Clamp.f rightB mn
  by_cases h1 : n < 1
  · rw [if_pos h1]
    simp only [Option.bind_some]
    rw [if_neg (by omega)]
    congr 1
    symm
    rw [decide_eq_false_iff_not]
    omega
  · rw [if_neg h1]
    by_cases h2 : 1048576 < n
    · rw [if_pos h2]
      simp only [Option.bind_some]
      rw [if_neg (by omega)]
      congr 1
      symm
      rw [decide_eq_false_iff_not]
      omega
    · rw [if_neg h2]
      simp only [Option.bind_some, if_true]
      rw [wr64 (n - 1) (by omega) (by omega)]
      by_cases h3 : d < 0
      · rw [if_pos h3]
        simp only [Option.bind_some]
        congr 1
        rw [Bool.eq_iff_iff, beq_iff_eq, decide_eq_true_eq]
        omega
      · rw [if_neg h3]
        by_cases h4 : n - 1 < d
        · rw [if_pos h4]
          simp only [Option.bind_some]
          congr 1
          rw [Bool.eq_iff_iff, beq_iff_eq, decide_eq_true_eq]
          omega
        · rw [if_neg h4]
          simp only [Option.bind_some]
          congr 1
          rw [Bool.eq_iff_iff, beq_iff_eq, decide_eq_true_eq]
          omega

def NewOsc (n d : Int) (w : World) (e : Ending) (w' : World) : Prop :=
  ∃ g, w.heap.size ≤ g ∧ e = .returned (.tuple #[.pointer (some ⟨g, 0, none⟩), .int .i64 0]) ∧ w'.heap[g]? = some (.cells #[.int .i64 n, .int .i64 d, .int .i64 0, .bool false] 138 (0, 0)) ∧ Below w.heap.size w w'
set_option maxHeartbeats 1000000 in
set_option maxRecDepth 100000 in
theorem New_yes (n d : Int) (w : World) (h : osc_Right.f n d = some true) : Calls Try.prog 79 #[.agg #[.int .i64 n, .int .i64 d]] w (NewOsc n d w) := by
  have H := Aside0.mk h; clear h
  have hu23 := Try.underlying50
  have hu47 := Try.underlying136
  have hu49 := Try.underlying138
  go_enter Try.func79, Try.ntmps79
  go_wp2_with (go_at_call 78; (with_reducible refine (osc_Right.calls n d true _ H.out).mono ?_); rintro e w1 ⟨rfl, hb1⟩; have c0 := (blk_cell (blk_below (blk_new w (.cells #[.int .i64 n, .int .i64 d] 50)) hb1) 0).trans rfl; have c1 := (blk_cell (blk_below (blk_new w (.cells #[.int .i64 n, .int .i64 d] 50)) hb1) 1).trans rfl)
  go_ret2
  exact ⟨w1.heap.size, by have := hb1.size; simp at this; omega, rfl, blk_new _ _, below_alloc (below_step (below_alloc (Below.refl _ _) _) hb1) _⟩
set_option maxHeartbeats 1000000 in
set_option maxRecDepth 100000 in
theorem New_no (n d : Int) (w : World) (h : osc_Right.f n d = some false) : Calls Try.prog 79 #[.agg #[.int .i64 n, .int .i64 d]] w fun e w' => e = .returned (.tuple #[.pointer none, .int .i64 1]) ∧ Below w.heap.size w w' := by
  have H := Aside0.mk h; clear h
  have hu23 := Try.underlying50
  go_enter Try.func79, Try.ntmps79
  go_wp2_with (go_at_call 78; (with_reducible refine (osc_Right.calls n d false _ H.out).mono ?_); rintro e w1 ⟨rfl, hb1⟩)
  go_ret2
  exact ⟨rfl, below_step (below_alloc (Below.refl _ _) _) hb1⟩

def OscIs (w : World) (g : Nat) (n d c : Int) (wl : Bool) : Prop := w.heap[g]? = some (.cells #[.int .i64 n, .int .i64 d, .int .i64 c, .bool wl] 138 (0, 0))

theorem Count_calls (g : Nat) (n d c : Int) (wl : Bool) (w : World) (h : OscIs w g n d c wl) : Calls Try.prog 67 #[.pointer (some ⟨g, 0, none⟩)] w fun e w' => e = .returned (.int .i64 c) ∧ w = w' := by
  obtain ⟨_, _, c2, _, _, _, _, _⟩ := cells4 h
  clear h
  have hu49 := Try.underlying138
  go_enter Try.func67, Try.ntmps67
  go_wp2
  go_ret
  exact ⟨rfl, rfl⟩
theorem Count_nil (w : World) : Calls Try.prog 67 #[.pointer none] w fun e w' => e = .returned (.int .i64 0) ∧ w = w' := by
  go_enter Try.func67, Try.ntmps67
  go_wp2
  go_ret
  exact ⟨rfl, rfl⟩
theorem Step_nil (t : Int) (w : World) : Calls Try.prog 58 #[.pointer none, .int .i64 t] w fun e w' => e = .returned (.int .i64 7) ∧ w = w' := by
  go_enter Try.func58, Try.ntmps58
  go_wp2
  go_ret
  exact ⟨rfl, rfl⟩
def stepF (n d c : Int) (wl : Bool) (t : Int) : Int × Int × Bool := if t < 0 ∨ 1048576 < t then (1, c, wl) else if 1152921504606846976 < c + t then (9, c, wl) else (0, c + t, wl || !decide (absd t n ≤ d))
def StepPost (g : Nat) (n d r c' : Int) (wl' : Bool) (w : World) (e : Ending) (w' : World) : Prop := e = .returned (.int .i64 r) ∧ OscIs w' g n d c' wl' ∧ KeepBut w w' g none ∧ (∀ B, B ≤ g → B ≤ w.heap.size → Below B w w')
set_option maxHeartbeats 2000000 in
set_option maxRecDepth 100000 in
theorem Step_range (g : Nat) (n d c t : Int) (wl : Bool) (w : World) (h : OscIs w g n d c wl) (ht : t < 0 ∨ 1048576 < t) : Calls Try.prog 58 #[.pointer (some ⟨g, 0, none⟩), .int .i64 t] w (StepPost g n d 1 c wl w) := by
  have HI := Aside0.mk h; clear h
  obtain ⟨v, hv, hne⟩ : ∃ v, exact_Clamp.f t 0 1048576 = some v ∧ (t != v) = true := by
    unfold exact_Clamp.f mn
    by_cases h1 : t < 0
    · exact ⟨0, by rw [if_pos h1], by simp; omega⟩
    · exact ⟨1048576, by rw [if_neg h1, if_pos (by omega)], by simp; omega⟩
  have Hv := Aside0.mk hv; clear hv ht
  have hu49 := Try.underlying138
  go_enter Try.func58, Try.ntmps58
  go_wp2_with (go_at_call 37; (with_reducible refine (exact_Clamp.calls t 0 1048576 v _ Hv.out).mono ?_); rintro e w1 ⟨rfl, hb1⟩)
  go_ret
  exact ⟨rfl, blk_below HI.out hb1, KeepBut.of_below hb1 g none, fun B h1 h2 => ⟨hb1.os, hb1.tape, hb1.output, hb1.size, fun k hk => hb1.block k (by omega)⟩⟩
set_option maxHeartbeats 2000000 in
set_option maxRecDepth 100000 in
theorem Step_over (g : Nat) (n d c t : Int) (wl : Bool) (w : World) (h : OscIs w g n d c wl) (h0 : 0 ≤ t) (h1 : t ≤ 1048576) (hc0 : 0 ≤ c) (hc1 : c ≤ 1152921504606846976) (ho : 1152921504606846976 < c + t) : Calls Try.prog 58 #[.pointer (some ⟨g, 0, none⟩), .int .i64 t] w (StepPost g n d 9 c wl w) := by
  have HI := Aside0.mk h; clear h
  have Hv : Aside0 (exact_Clamp.f t 0 1048576 = some t) := ⟨by unfold exact_Clamp.f mn; rw [if_neg (by omega), if_neg (by omega)]⟩
  have Ha : Aside0 (exact_Add.f c t = some (c + t, true)) := ⟨by rw [Add_eq c t (by omega) (by omega) (by omega) (by omega), fit64_in (by omega) (by omega)]⟩
  have ho' : decide (1152921504606846976 < c + t) = true := decide_eq_true ho
  have hu49 := Try.underlying138
  have ht : (t != t) = false := by simp
  clear ho h0 h1 hc0 hc1
  go_enter Try.func58, Try.ntmps58
  go_wp2_with (first | (go_at_call 37; (with_reducible refine (exact_Clamp.calls t 0 1048576 t _ Hv.out).mono ?_); rintro e w1 ⟨rfl, hb1⟩; obtain ⟨_, _, c2, _, _, _, _, _⟩ := cells4 (blk_below HI.out hb1)) | (go_at_call 14; (with_reducible refine (exact_Add.calls c t (c + t) true _ Ha.out).mono ?_); rintro e w2 ⟨rfl, ⟨m, rfl⟩⟩))
  go_ret
  exact ⟨rfl, blk_drewN (blk_below HI.out hb1) m, keep_drewN (KeepBut.of_below hb1 g none) m, fun B h1 h2 => pw_below_drewN ⟨hb1.os, hb1.tape, hb1.output, hb1.size, fun k hk => hb1.block k (by omega)⟩ m⟩
theorem fits_eq (n d t : Int) (n0 : 1 ≤ n) (n1 : n ≤ 1048576) (t0 : 0 ≤ t) (t1 : t ≤ 1048576) : osc_beat_fits.f n d t = some (decide (absd t n ≤ d)) := by
  have h : -9223372036854775808 ≤ absd t n ∧ absd t n ≤ 9223372036854775807 := by unfold absd; split <;> omega
  unfold osc_beat_fits.f
  rw [Dist_eq t n (by omega) (by omega) (by omega) (by omega), fit64_in h.1 h.2]
  simp
set_option maxHeartbeats 2000000 in
set_option maxRecDepth 100000 in
theorem Step_ok (g : Nat) (n d c t : Int) (wl : Bool) (w : World) (h : OscIs w g n d c wl) (h0 : 0 ≤ t) (h1 : t ≤ 1048576) (hc0 : 0 ≤ c) (hc1 : c ≤ 1152921504606846976) (ho : ¬ 1152921504606846976 < c + t) (n0 : 1 ≤ n) (n1 : n ≤ 1048576) : Calls Try.prog 58 #[.pointer (some ⟨g, 0, none⟩), .int .i64 t] w (StepPost g n d 0 (c + t) (wl || !decide (absd t n ≤ d)) w) := by
  have HI := Aside0.mk h; clear h
  have Hv : Aside0 (exact_Clamp.f t 0 1048576 = some t) := ⟨by unfold exact_Clamp.f mn; rw [if_neg (by omega), if_neg (by omega)]⟩
  have Ha : Aside0 (exact_Add.f c t = some (c + t, true)) := ⟨by rw [Add_eq c t (by omega) (by omega) (by omega) (by omega), fit64_in (by omega) (by omega)]⟩
  obtain ⟨fb, hfb⟩ : ∃ fb, decide (absd t n ≤ d) = fb := ⟨_, rfl⟩
  rw [hfb]
  have Hf : Aside0 (osc_beat_fits.f n d t = some fb) := ⟨by rw [fits_eq n d t n0 n1 h0 h1, hfb]⟩
  have ho' : decide (1152921504606846976 < c + t) = false := decide_eq_false ho
  have hu49 := Try.underlying138
  have hu47 := Try.underlying136
  have ht : (t != t) = false := by simp
  clear ho h0 h1 hc0 hc1 n0 n1 hfb
  cases wl with
  | true =>
    go_enter Try.func58, Try.ntmps58
    go_wp2_with (first | (go_at_call 37; (with_reducible refine (exact_Clamp.calls t 0 1048576 t _ Hv.out).mono ?_); rintro e w1 ⟨rfl, hb1⟩; have hI1 := blk_below HI.out hb1; have HI1 := Aside0.mk hI1; obtain ⟨c0, c1, c2, c3, f0, f1, f2, f3⟩ := cells4 hI1; clear hI1) | (go_at_call 14; (with_reducible refine (exact_Add.calls c t (c + t) true _ Ha.out).mono ?_); rintro e w2 ⟨rfl, ⟨m, rfl⟩⟩))
    go_ret
    refine ⟨rfl, blk_put (blk_put (blk_drewN HI1.out m) 2 (.int .i64 (c + t)) rfl) 3 (.bool true) rfl, KeepBut.set_ (KeepBut.set_ (keep_drewN (KeepBut.of_below hb1 g none) m) 2 _) 3 _, fun B h1 h2 => ?_⟩
    exact (((pw_below_drewN ⟨hb1.os, hb1.tape, hb1.output, hb1.size, fun k hk => hb1.block k (by omega)⟩ m).setCell (p := ⟨g, 2, none⟩) h1 _).setCell (p := ⟨g, 3, none⟩) h1 _)
  | false =>
    go_enter Try.func58, Try.ntmps58
    go_wp2_with (first | (go_at_call 37; (with_reducible refine (exact_Clamp.calls t 0 1048576 t _ Hv.out).mono ?_); rintro e w1 ⟨rfl, hb1⟩; have hI1 := blk_below HI.out hb1; have HI1 := Aside0.mk hI1; obtain ⟨c0, c1, c2, c3, f0, f1, f2, f3⟩ := cells4 hI1; clear hI1) | (go_at_call 14; (with_reducible refine (exact_Add.calls c t (c + t) true _ Ha.out).mono ?_); rintro e w2 ⟨rfl, ⟨m, rfl⟩⟩) | (go_at_call 80; (with_reducible refine (osc_beat_fits.calls n d t fb _ Hf.out).mono ?_); rintro e w3 ⟨rfl, hb3⟩; have hI3 := blk_below (blk_put (blk_drewN HI1.out m) 2 (.int .i64 (c + t)) rfl) hb3; have HI3 := Aside0.mk hI3; obtain ⟨d0, d1, d2, d3, e0, e1, e2, e3⟩ := cells4 hI3; clear hI3))
    go_ret
    refine ⟨rfl, ?_, KeepBut.set_ (KeepBut.trans (KeepBut.set_ (keep_drewN (KeepBut.of_below hb1 g none) m) 2 _) (KeepBut.of_below hb3 g none) (.inl rfl)) 3 _, fun B h1 h2 => ?_⟩
    · rw [Bool.false_or]
      exact blk_put HI3.out 3 (.bool !fb) rfl
    · exact (((pw_below_drewN ⟨hb1.os, hb1.tape, hb1.output, hb1.size, fun k hk => hb1.block k (by omega)⟩ m).setCell (p := ⟨g, 2, none⟩) h1 _).trans ⟨hb3.os, hb3.tape, hb3.output, hb3.size, fun k hk => hb3.block k (by have := hb1.size; simp; omega)⟩).setCell (p := ⟨g, 3, none⟩) h1 _
theorem Step_calls (g : Nat) (n d c t r c' : Int) (wl wl' : Bool) (w : World) (h : OscIs w g n d c wl) (hc0 : 0 ≤ c) (hc1 : c ≤ 1152921504606846976) (n0 : 1 ≤ n) (n1 : n ≤ 1048576) (hs : stepF n d c wl t = (r, c', wl')) :
    Calls Try.prog 58 #[.pointer (some ⟨g, 0, none⟩), .int .i64 t] w (StepPost g n d r c' wl' w) := by
  unfold stepF at hs
  by_cases h1 : t < 0 ∨ 1048576 < t
  · rw [if_pos h1] at hs
    simp only [Prod.mk.injEq] at hs
    obtain ⟨rfl, rfl, rfl⟩ := hs
    exact Step_range g n d c t wl w h h1
  · rw [if_neg h1] at hs
    by_cases h2 : 1152921504606846976 < c + t
    · rw [if_pos h2] at hs
      simp only [Prod.mk.injEq] at hs
      obtain ⟨rfl, rfl, rfl⟩ := hs
      exact Step_over g n d c t wl w h (by omega) (by omega) hc0 hc1 h2
    · rw [if_neg h2] at hs
      simp only [Prod.mk.injEq] at hs
      obtain ⟨rfl, rfl, rfl⟩ := hs
      exact Step_ok g n d c t wl w h (by omega) (by omega) hc0 hc1 h2 n0 n1
end Go.Proofs.Ytgnkmpgnlpjglaa.P
