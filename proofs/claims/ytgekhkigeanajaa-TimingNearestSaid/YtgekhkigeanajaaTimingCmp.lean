/- Which of two timings comes nearer, by the program. Conditions: the ranges that each lemma names. -/
import Derived.Test.YtgekhkigeanajaaTimingColl
namespace Go.Proofs.Ytgekhkigeanajaa.P
open Go.RowKit Go.Proofs.YtgekhkigeanajaaW.PrintWords Go.Proofs.YtgekhkigeanajaaW.PrintLast Go.Proofs.YtgekhkigeanajaaW.PrintMore
set_option linter.unusedVariables false
set_option linter.unusedSimpArgs false
def cmpI (x y : Int) : Int := if x < y then -1 else if y < x then 1 else 0
theorem nan1 (x : Int) (w : World) : Calls Try.prog 55 #[.int .i64 x] w fun e w' => e = .returned (.bool false) ∧ Drawn0 w w' := by
  have q : (x != x) = false := by simp
  go_enter Try.func55, Try.ntmps55
  go_wp2_with fail
  go_ret
  exact ⟨rfl, Drawn0.refl _⟩
theorem nan2 (x : Int) (w : World) : Calls Try.prog 56 #[.int .i64 x] w fun e w' => e = .returned (.bool false) ∧ Drawn0 w w' := by
  have q : (x != x) = false := by simp
  go_enter Try.func56, Try.ntmps56
  go_wp2_with fail
  go_ret
  exact ⟨rfl, Drawn0.refl _⟩
theorem cmp1 (x y : Int) (w : World) : Calls Try.prog 47 #[.int .i64 x, .int .i64 y] w fun e w' => e = .returned (.int .i64 (cmpI x y)) ∧ Drawn0 w w' := by
  unfold cmpI
  by_cases h1 : x < y
  · rw [if_pos h1]
    have u1 : decide (x < y) = true := decide_eq_true h1
    clear h1
    go_enter Try.func47, Try.ntmps47
    go_wp2_with (first | (go_at_call 55; (with_reducible refine (nan1 x _).mono ?_); rintro e w1 ⟨rfl, ⟨m1, rfl⟩⟩) | (go_at_call 55; (with_reducible refine (nan1 y _).mono ?_); rintro e w2 ⟨rfl, ⟨m2, rfl⟩⟩))
    go_ret
    exact ⟨rfl, by repeat (first | exact Drawn0.refl _ | apply Drawn0.step | exact ⟨⟨_, rfl⟩⟩)⟩
  · rw [if_neg h1]
    have u1 : decide (x < y) = false := decide_eq_false h1
    by_cases h2 : y < x
    · rw [if_pos h2]
      have u2 : decide (x > y) = true := decide_eq_true h2
      have u3 : decide (y < x) = true := decide_eq_true h2
      clear h1 h2
      go_enter Try.func47, Try.ntmps47
      go_wp2_with (first | (go_at_call 55; (with_reducible refine (nan1 x _).mono ?_); rintro e w1 ⟨rfl, ⟨m1, rfl⟩⟩) | (go_at_call 55; (with_reducible refine (nan1 y _).mono ?_); rintro e w2 ⟨rfl, ⟨m2, rfl⟩⟩))
      go_ret
      exact ⟨rfl, by repeat (first | exact Drawn0.refl _ | apply Drawn0.step | exact ⟨⟨_, rfl⟩⟩)⟩
    · rw [if_neg h2]
      have u2 : decide (x > y) = false := decide_eq_false h2
      have u3 : decide (y < x) = false := decide_eq_false h2
      clear h1 h2
      go_enter Try.func47, Try.ntmps47
      go_wp2_with (first | (go_at_call 55; (with_reducible refine (nan1 x _).mono ?_); rintro e w1 ⟨rfl, ⟨m1, rfl⟩⟩) | (go_at_call 55; (with_reducible refine (nan1 y _).mono ?_); rintro e w2 ⟨rfl, ⟨m2, rfl⟩⟩))
      go_ret
      exact ⟨rfl, by repeat (first | exact Drawn0.refl _ | apply Drawn0.step | exact ⟨⟨_, rfl⟩⟩)⟩
theorem cmp2 (x y : Int) (w : World) : Calls Try.prog 48 #[.int .i64 x, .int .i64 y] w fun e w' => e = .returned (.int .i64 (cmpI x y)) ∧ Drawn0 w w' := by
  unfold cmpI
  by_cases h1 : x < y
  · rw [if_pos h1]
    have u1 : decide (x < y) = true := decide_eq_true h1
    clear h1
    go_enter Try.func48, Try.ntmps48
    go_wp2_with (first | (go_at_call 56; (with_reducible refine (nan2 x _).mono ?_); rintro e w1 ⟨rfl, ⟨m1, rfl⟩⟩) | (go_at_call 56; (with_reducible refine (nan2 y _).mono ?_); rintro e w2 ⟨rfl, ⟨m2, rfl⟩⟩))
    go_ret
    exact ⟨rfl, by repeat (first | exact Drawn0.refl _ | apply Drawn0.step | exact ⟨⟨_, rfl⟩⟩)⟩
  · rw [if_neg h1]
    have u1 : decide (x < y) = false := decide_eq_false h1
    by_cases h2 : y < x
    · rw [if_pos h2]
      have u2 : decide (x > y) = true := decide_eq_true h2
      have u3 : decide (y < x) = true := decide_eq_true h2
      clear h1 h2
      go_enter Try.func48, Try.ntmps48
      go_wp2_with (first | (go_at_call 56; (with_reducible refine (nan2 x _).mono ?_); rintro e w1 ⟨rfl, ⟨m1, rfl⟩⟩) | (go_at_call 56; (with_reducible refine (nan2 y _).mono ?_); rintro e w2 ⟨rfl, ⟨m2, rfl⟩⟩))
      go_ret
      exact ⟨rfl, by repeat (first | exact Drawn0.refl _ | apply Drawn0.step | exact ⟨⟨_, rfl⟩⟩)⟩
    · rw [if_neg h2]
      have u2 : decide (x > y) = false := decide_eq_false h2
      have u3 : decide (y < x) = false := decide_eq_false h2
      clear h1 h2
      go_enter Try.func48, Try.ntmps48
      go_wp2_with (first | (go_at_call 56; (with_reducible refine (nan2 x _).mono ?_); rintro e w1 ⟨rfl, ⟨m1, rfl⟩⟩) | (go_at_call 56; (with_reducible refine (nan2 y _).mono ?_); rintro e w2 ⟨rfl, ⟨m2, rfl⟩⟩))
      go_ret
      exact ⟨rfl, by repeat (first | exact Drawn0.refl _ | apply Drawn0.step | exact ⟨⟨_, rfl⟩⟩)⟩
def orI (x y : Int) : Int := if x = 0 then y else x
theorem or_two (x y : Int) (W : World) : Calls Try.prog 46 #[.slice (some ⟨W.heap.size, 0, none⟩) 2 2] (W.alloc (.cells #[.int .i64 x, .int .i64 y] 3)) fun e w' => e = .returned (.int .i64 (orI x y)) ∧ Drawn0 (W.alloc (.cells #[.int .i64 x, .int .i64 y] 3)) w' := by
  have hb := blk_new W (.cells #[.int .i64 x, .int .i64 y] 3)
  have c0 := (blk_cell hb 0).trans rfl
  have c1 := (blk_cell hb 1).trans rfl
  unfold orI
  clear hb
  generalize W.alloc (.cells #[.int .i64 x, .int .i64 y] 3) = w1 at c0 c1 ⊢
  generalize W.heap.size = g at c0 c1 ⊢
  by_cases h1 : x = 0
  · rw [if_pos h1]
    subst h1
    by_cases h2 : y = 0
    · subst h2
      go_enter Try.func46, Try.ntmps46
      go_wp2_with fail
      go_loopg [8] 2 (fun kq v8 w' => ∃ k : Nat, v8 = .int .i64 (k : Int) ∧ Aside0 (k + kq = 2) ∧ w' = w1)
      case atStart => exact ⟨0, rfl, ⟨by omega⟩, rfl⟩
      case round =>
        obtain ⟨k, rfl, HK, rfl⟩ := hrel
        cases gk with
        | zero =>
          obtain rfl : k = 2 := by have := HK.out; omega
          go_wp2_with fail
          go_ret
          exact ⟨rfl, Drawn0.refl _⟩
        | succ k1 =>
          have hk : k = 0 ∨ k = 1 := by have := HK.out; omega
          rcases hk with rfl | rfl
          · obtain rfl : k1 = 1 := by have := HK.out; omega
            go_wp2_with fail
            go_roundg 1
            case measure => omega
            case rel => exact ⟨1, rfl, ⟨by omega⟩, rfl⟩
          · obtain rfl : k1 = 0 := by have := HK.out; omega
            go_wp2_with fail
            go_roundg 0
            case measure => omega
            case rel => exact ⟨2, rfl, ⟨by omega⟩, rfl⟩
    · have hy := h2
      clear h2
      have q1 : (y == 0) = false := beq_eq_false_iff_ne.mpr hy
      have q2 : (y != 0) = true := by simp [hy]
      have q3 : (y = 0) = False := eq_false hy
      clear hy
      go_enter Try.func46, Try.ntmps46
      go_wp2_with fail
      go_loopg [8] 2 (fun kq v8 w' => ∃ k : Nat, v8 = .int .i64 (k : Int) ∧ Aside0 (k + kq = 2 ∧ k ≤ 1) ∧ w' = w1)
      case atStart => exact ⟨0, rfl, ⟨by omega⟩, rfl⟩
      case round =>
        obtain ⟨k, rfl, HK, rfl⟩ := hrel
        obtain ⟨k1, rfl⟩ : ∃ k1, gk = k1 + 1 := ⟨gk - 1, by have := HK.out; omega⟩
        have hk : k = 0 ∨ k = 1 := by have := HK.out; omega
        rcases hk with rfl | rfl
        · obtain rfl : k1 = 1 := by have := HK.out; omega
          go_wp2_with fail
          go_roundg 1
          case measure => omega
          case rel => exact ⟨1, rfl, ⟨by omega⟩, rfl⟩
        · go_wp2_with fail
          go_ret
          exact ⟨rfl, Drawn0.refl _⟩
  · rw [if_neg h1]
    have q1 : (x == 0) = false := beq_eq_false_iff_ne.mpr h1
    have q2 : (x != 0) = true := by simp [h1]
    have q3 : (x = 0) = False := eq_false h1
    clear h1
    go_enter Try.func46, Try.ntmps46
    go_wp2_with fail
    go_loopg [8] 2 (fun kq v8 w' => v8 = .int .i64 0 ∧ Aside0 (kq = 2) ∧ w' = w1)
    case atStart => exact ⟨rfl, ⟨rfl⟩, rfl⟩
    case round =>
      obtain ⟨rfl, HK, rfl⟩ := hrel
      obtain ⟨k1, rfl⟩ : ∃ k1, gk = k1 + 1 := ⟨gk - 1, by have := HK.out; omega⟩
      go_wp2_with fail
      go_ret
      exact ⟨rfl, Drawn0.refl _⟩
def Tm.q (t : Tm) : Int := 1 + t.p + t.a + t.b
def Tm.sample (t : Tm) : Int := 1000 * (1 + t.p + t.a) / t.q
def Tm.drift (t : Tm) : Int := mn (1000000 * mn t.a t.b / (2 * (13 * t.q - t.b))) (1000000 * t.j / (20 * t.q))
theorem Tm.right_of {t : Tm} (h : t.rightB = true) : (1 ≤ t.k ∧ t.k ≤ 1024) ∧ (1 ≤ t.p ∧ t.p ≤ 8) ∧ (1 ≤ t.a ∧ t.a ≤ 8) ∧ (1 ≤ t.b ∧ t.b ≤ 8) ∧ (1 ≤ t.j ∧ t.j ≤ 4 ∧ t.j ≤ t.a ∧ t.j ≤ t.b) ∧ 8 ≤ 1 + t.p + t.a + t.b ∧ 1 + t.p + t.a + t.b ≤ 25 := of_decide_eq_true h
theorem quanta_eq {t : Tm} (h : t.rightB = true) : timing_timed_quanta.f t.k t.p t.a t.b t.j = some t.q := by
  have := Tm.right_of h
  unfold timing_timed_quanta.f Tm.q
  rw [wr_small (1 + t.p) (by omega) (by omega), wr_small (1 + t.p + t.a) (by omega) (by omega), wr_small (1 + t.p + t.a + t.b) (by omega) (by omega)]
theorem sample_range {t : Tm} (h : t.rightB = true) : 0 ≤ t.sample ∧ t.sample ≤ 1000 := by
  have := Tm.right_of h
  unfold Tm.sample Tm.q
  refine ⟨Int.ediv_nonneg (by omega) (by omega), Int.ediv_le_of_le_mul (by omega) ?_⟩
  omega
theorem sample_eq {t : Tm} (h : t.rightB = true) : timing_timed_sample.f t.k t.p t.a t.b t.j = some t.sample := by
  have r := Tm.right_of h
  have s := sample_range h
  unfold timing_timed_sample.f
  rw [quanta_eq h]
  simp only [Option.bind_some]
  have hq : t.q = 1 + t.p + t.a + t.b := rfl
  rw [if_neg (by omega), wr_small (1 + t.p) (by omega) (by omega), wr_small (1 + t.p + t.a) (by omega) (by omega), wr_small (1000 * (1 + t.p + t.a)) (by omega) (by omega), Int.tdiv_eq_ediv_of_nonneg (by omega)]
  exact congrArg some (wr_small _ (by unfold Tm.sample at s; omega) (by unfold Tm.sample at s; omega))
theorem drift_parts {t : Tm} (h : t.rightB = true) : (0 ≤ 1000000 * mn t.a t.b / (2 * (13 * t.q - t.b)) ∧ 1000000 * mn t.a t.b / (2 * (13 * t.q - t.b)) ≤ 8000000) ∧ (0 ≤ 1000000 * t.j / (20 * t.q) ∧ 1000000 * t.j / (20 * t.q) ≤ 8000000) := by
  have r := Tm.right_of h
  have hq : t.q = 1 + t.p + t.a + t.b := rfl
  have hm : 1 ≤ mn t.a t.b ∧ mn t.a t.b ≤ 8 := by unfold mn; split <;> omega
  exact ⟨⟨Int.ediv_nonneg (by omega) (by omega), Int.ediv_le_of_le_mul (by omega) (by omega)⟩, ⟨Int.ediv_nonneg (by omega) (by omega), Int.ediv_le_of_le_mul (by omega) (by omega)⟩⟩
theorem drift_range {t : Tm} (h : t.rightB = true) : 0 ≤ t.drift ∧ t.drift ≤ 8000000 := by
  have := drift_parts h
  unfold Tm.drift
  generalize 1000000 * mn t.a t.b / (2 * (13 * t.q - t.b)) = x at *
  generalize 1000000 * t.j / (20 * t.q) = y at *
  unfold mn
  split <;> omega
theorem drift_eq {t : Tm} (h : t.rightB = true) : timing_timed_drift.f t.k t.p t.a t.b t.j = some t.drift := by
  have r := Tm.right_of h
  have d := drift_parts h
  have hq : t.q = 1 + t.p + t.a + t.b := rfl
  have hm : 1 ≤ mn t.a t.b ∧ mn t.a t.b ≤ 8 := by unfold mn; split <;> omega
  unfold timing_timed_drift.f exact_Scale.f
  rw [quanta_eq h]
  simp only [Option.bind_some]
  rw [wr_small (13 * t.q) (by omega) (by omega), wr_small (13 * t.q - t.b) (by omega) (by omega), wr_small (2 * (13 * t.q - t.b)) (by omega) (by omega), wr_small (20 * t.q) (by omega) (by omega)]
  rw [if_neg (by omega), if_pos (by unfold In64; omega), if_neg (by omega), if_pos (by unfold In64; omega)]
  simp only [Option.bind_some]
  have f1 : (fits (1000000 * mn t.a t.b / (2 * (13 * t.q - t.b)))).1 = 1000000 * mn t.a t.b / (2 * (13 * t.q - t.b)) := by
    unfold fits
    rw [if_pos (by omega)]
  have f2 : (fits (1000000 * t.j / (20 * t.q))).1 = 1000000 * t.j / (20 * t.q) := by
    unfold fits
    rw [if_pos (by omega)]
  rw [f1, f2]
  rfl
def offV (s : Int) (t : Tm) : Int := mx (t.sample - s) (s - t.sample)
theorem offV_range {s : Int} {t : Tm} (h : t.rightB = true) (s0 : 0 ≤ s) (s1 : s ≤ 1000) : 0 ≤ offV s t ∧ offV s t ≤ 1000 := by
  have := sample_range h
  unfold offV mx
  split <;> omega
set_option maxHeartbeats 8000000 in
set_option maxRecDepth 100000 in
theorem off_calls (t : Tm) (s : Int) (gb : Nat) (w : World) (h : t.rightB = true) (s0 : 0 ≤ s) (s1 : s ≤ 1000) (hg : w.heap[gb]? = some (.cells #[.int .i64 s] 51 (0, 0))) :
    Calls Try.prog 45 #[.agg #[.int .i64 t.k, .int .i64 t.p, .int .i64 t.a, .int .i64 t.b, .int .i64 t.j], .pointer (some ⟨gb, 0, none⟩)] w fun e w' => e = .returned (.int .i64 (offV s t)) ∧ Below w.heap.size w w' := by
  have hu39 := Try.underlying39
  have hu51 := Try.underlying51
  have HS := Aside0.mk (sample_eq h)
  have sr := sample_range h
  have e1 : IntKind.i64.wrap (t.sample - s) = t.sample - s := by rw [IntKind.wrap_i64]; omega
  have e2 : IntKind.i64.wrap (s - t.sample) = s - t.sample := by rw [IntKind.wrap_i64]; omega
  have BK0 : Aside0 ((w.alloc (.cells #[.int .i64 t.k, .int .i64 t.p, .int .i64 t.a, .int .i64 t.b, .int .i64 t.j] 39)).heap[w.heap.size]? = some (.cells #[.int .i64 t.k, .int .i64 t.p, .int .i64 t.a, .int .i64 t.b, .int .i64 t.j] 39 (0, 0))) := ⟨blk_new _ _⟩
  have BG0 : Aside0 ((w.alloc (.cells #[.int .i64 t.k, .int .i64 t.p, .int .i64 t.a, .int .i64 t.b, .int .i64 t.j] 39)).heap[gb]? = some (.cells #[.int .i64 s] 51 (0, 0))) := ⟨blk_below hg (below_alloc (Below.refl _ _) _)⟩
  have B0 : Aside0 (Below w.heap.size w (w.alloc (.cells #[.int .i64 t.k, .int .i64 t.p, .int .i64 t.a, .int .i64 t.b, .int .i64 t.j] 39))) := ⟨below_alloc (Below.refl _ _) _⟩
  obtain ⟨c0, c1, c2, c3, c4⟩ := tm_cells BK0.out
  have d0 := (blk_cell BG0.out 0).trans rfl
  have OV : Aside0 (mx (t.sample - s) (s - t.sample) = offV s t) := ⟨rfl⟩
  clear h s0 s1 hg sr
  go_enter Try.func45, Try.ntmps45
  go_wp2_with fail
  go_region_held3 (fun w' => w'.cell? ⟨w.heap.size, 0, none⟩ = some (.int .i64 t.k) ∧ w'.cell? ⟨w.heap.size, 1, none⟩ = some (.int .i64 t.p) ∧ w'.cell? ⟨w.heap.size, 2, none⟩ = some (.int .i64 t.a) ∧ w'.cell? ⟨w.heap.size, 3, none⟩ = some (.int .i64 t.b) ∧ w'.cell? ⟨w.heap.size, 4, none⟩ = some (.int .i64 t.j) ∧ w'.cell? ⟨gb, 0, none⟩ = some (.int .i64 s)) (go_keep)
    (first
      | (go_at_call 30; (with_reducible refine (timing_timed_sample.calls _ _ _ _ _ _ _ HS.out).mono ?_); rintro e w5 ⟨rfl, hb⟩; have n1 : Aside0 (w5.heap[w.heap.size]? = some (.cells #[.int .i64 t.k, .int .i64 t.p, .int .i64 t.a, .int .i64 t.b, .int .i64 t.j] 39 (0, 0))) := ⟨(by first | exact blk_below BK0.out hb | exact blk_below (blk_drew BK0.out) hb)⟩; have n2 : Aside0 (w5.heap[gb]? = some (.cells #[.int .i64 s] 51 (0, 0))) := ⟨(by first | exact blk_below BG0.out hb | exact blk_below (blk_drew BG0.out) hb)⟩; have n3 : Aside0 (Below w.heap.size w w5) := ⟨(by first | exact below_step B0.out hb | exact below_step (below_drew1 B0.out) hb)⟩; clear hb; clear BK0 BG0 B0; have BK0 := n1; have BG0 := n2; have B0 := n3; clear n1 n2 n3; clear c0 c1 c2 c3 c4 d0; obtain ⟨c0, c1, c2, c3, c4⟩ := tm_cells BK0.out; have d0 := (blk_cell BG0.out 0).trans rfl))
  go_wp2
  all_goals go_ret
  all_goals (first
    | exact ⟨by simp only [offV, mx]; rw [if_pos (by omega)]; rfl, B0.out⟩
    | exact ⟨by simp only [offV, mx]; rw [if_neg (by omega)]; rfl, B0.out⟩)
end Go.Proofs.Ytgekhkigeanajaa.P
