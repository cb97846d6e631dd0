/- The timing of so many ticks a bit whose sample comes nearest, by the program. Conditions: the ranges that each lemma names. -/
import Derived.Test.YtgekhkigeanajaaTimingFind
namespace Go.Proofs.Ytgekhkigeanajaa.P
open Go.RowKit Go.Proofs.YtgekhkigeanajaaW.PrintWords Go.Proofs.YtgekhkigeanajaaW.PrintLast Go.Proofs.YtgekhkigeanajaaW.PrintMore
set_option linter.unusedVariables false
set_option linter.unusedSimpArgs false
theorem allTo_right (bit : Int) : ∀ m, ∀ t ∈ allTo bit m, t.rightB = true
  | 0, t, h => by cases h
  | m + 1, t, h => by
    unfold allTo at h
    rcases List.mem_append.1 h with h | h
    · exact allTo_right bit m t h
    · unfold mapQ at h
      obtain ⟨u, hu, rfl⟩ := List.mem_map.1 h
      have := (List.mem_filter.1 hu).2
      unfold okQ at this
      rw [Bool.and_eq_true] at this
      exact this.2
theorem allL_right (bit : Int) : ∀ t ∈ allL bit, t.rightB = true := by
  unfold allL
  split
  · exact allTo_right bit 18
  · intro t h
    cases h
def z5 : Tm := ⟨0, 0, 0, 0, 0⟩
def findV (bit s : Int) : Tm × Bool := match allL bit with
  | [] => (z5, false)
  | x :: xs => if s < 0 ∨ s > 1000 then (z5, false) else (minV s x xs, true)
theorem All_calls' (bit : Int) (w : World) : Calls Try.prog 34 #[.int .i64 bit] w fun e w' => e = .returned (.func (.func 43) #[] #[.pointer (some ⟨w.heap.size, 0, none⟩)]) ∧ w' = w.alloc (.cells #[.int .i64 bit] 2) := callsIn_wide.1 (all_in Fence.wide 1 trivial rfl bit w)
theorem Collect_calls (Bb : Nat) (bit : Int) (w : World) (b64 : -9223372036854775808 ≤ bit ∧ bit ≤ 9223372036854775807) (hB : w.heap[Bb]? = some (.cells #[.int .i64 bit] 2 (0, 0))) :
    Calls Try.prog 33 #[.func (.func 43) #[] #[.pointer (some ⟨Bb, 0, none⟩)]] w fun e W' => ∃ v, e = .returned v ∧ W'.ownsRow w.heap.size 39 5 v (allL bit).length (rowCells (allL bit)) ∧ Below w.heap.size w W' := callsIn_wide.1 (Collect_in 8 (Nat.le_refl _) Bb bit w b64 hB)
set_option maxHeartbeats 8000000 in
set_option maxRecDepth 100000 in
theorem Find_no (bit s : Int) (w : World) (b64 : -9223372036854775808 ≤ bit ∧ bit ≤ 9223372036854775807) (h : allL bit = [] ∨ s < 0 ∨ s > 1000) :
    Calls Try.prog 20 #[.int .i64 bit, .int .i64 s] w fun e w' => e = .returned (.tuple #[.agg #[.int .i64 0, .int .i64 0, .int .i64 0, .int .i64 0, .int .i64 0], .bool false]) ∧ Below w.heap.size w w' := by
  have hu23 := Try.underlying23
  have hu39 := Try.underlying39
  have H := Aside0.mk h
  have H64 := Aside0.mk b64
  have K0 : Aside0 ((w.alloc (.cells #[.int .i64 0, .int .i64 0, .int .i64 0, .int .i64 0, .int .i64 0] 23)).heap[w.heap.size]? = some (.cells #[.int .i64 0, .int .i64 0, .int .i64 0, .int .i64 0, .int .i64 0] 23 (0, 0))) := ⟨blk_new _ _⟩
  have B0 : Aside0 (Below w.heap.size w (w.alloc (.cells #[.int .i64 0, .int .i64 0, .int .i64 0, .int .i64 0, .int .i64 0] 23))) := ⟨below_alloc (Below.refl _ _) _⟩
  clear h b64
  go_enter Try.func20, Try.ntmps20
  go_wp2_with fail
  (with_reducible refine (All_calls' bit _).mono ?_); rintro e w1 ⟨rfl, rfl⟩
  have K1 := Aside0.mk (blk_below K0.out (below_alloc (Below.refl _ _) (.cells #[.int .i64 bit] 2)))
  have B1 := Aside0.mk (below_alloc B0.out (.cells #[.int .i64 bit] 2))
  have KB : Aside0 (((w.alloc (.cells #[.int .i64 0, .int .i64 0, .int .i64 0, .int .i64 0, .int .i64 0] 23)).alloc (.cells #[.int .i64 bit] 2)).heap[w.heap.size + 1]? = some (.cells #[.int .i64 bit] 2 (0, 0))) := ⟨by
    have := blk_new (w.alloc (.cells #[.int .i64 0, .int .i64 0, .int .i64 0, .int .i64 0, .int .i64 0] 23)) (.cells #[.int .i64 bit] 2)
    rwa [World.size_alloc] at this⟩
  clear K0 B0
  go_wp2_with fail
  (with_reducible refine (Collect_calls _ bit _ H64.out KB.out).mono ?_); rintro e w2 ⟨v, rfl, ho, hb⟩
  have K2 := Aside0.mk (blk_below K1.out hb)
  have B2 := Aside0.mk (below_step B1.out hb)
  obtain ⟨A, c, rfl⟩ := own_slice ho
  clear ho
  generalize hL : (allL bit).length = L
  have HL := Aside0.mk hL
  clear hL
  obtain ⟨d0, d1, d2, d3, d4⟩ := tm_cells (t := ⟨0, 0, 0, 0, 0⟩) K2.out
  obtain ⟨f0, f1, f2, f3, f4⟩ := tm_frz K2.out
  dsimp only at d0 d1 d2 d3 d4
  clear hb K1 B1 KB
  by_cases hz : L = 0
  · have v1 : ((L : Int) == 0) = true := beq_iff_eq.mpr (by omega)
    have v2 : (L = 0) = True := eq_true hz
    clear hz
    go_wp2_with fail
    (try simp only [Exit.jump])
    refine bodyPost_ret (results_ct rfl _ _ w.heap.size 23 #[.int .i64 0, .int .i64 0, .int .i64 0, .int .i64 0, .int .i64 0] (0, 0) _ rfl (set5_blk (t := z5) (u := z5) K2.out) Try.underlying23 rfl (by kernel_rfl)) rfl ?_
    exact ⟨rfl, set5_below (g := w.heap.size) (t := z5) B2.out (Nat.le_refl _)⟩
  · have v1 : ((L : Int) == 0) = false := beq_eq_false_iff_ne.mpr (by omega)
    have v2 : (L = 0) = False := eq_false hz
    have v2' : ((L : Int) = 0) = False := eq_false (by omega)
    have hs : s < 0 ∨ s > 1000 := by
      rcases H.out with e | e
      · have h2 := HL.out
        rw [e] at h2
        exact absurd h2.symm hz
      · exact e
    clear hz
    by_cases q : s < 0
    · have v3 : decide (s < 0) = true := decide_eq_true q
      clear q hs
      go_wp2_with fail
      (try simp only [Exit.jump])
      refine bodyPost_ret (results_ct rfl _ _ w.heap.size 23 #[.int .i64 0, .int .i64 0, .int .i64 0, .int .i64 0, .int .i64 0] (0, 0) _ rfl (set5_blk (t := z5) (u := z5) K2.out) Try.underlying23 rfl (by kernel_rfl)) rfl ?_
      exact ⟨rfl, set5_below (g := w.heap.size) (t := z5) B2.out (Nat.le_refl _)⟩
    · have v3 : decide (s < 0) = false := decide_eq_false q
      have v4 : decide (s > 1000) = true := decide_eq_true (by omega)
      have v5 : decide (1000 < s) = true := decide_eq_true (by omega)
      clear q hs
      go_wp2_with fail
      (try simp only [Exit.jump])
      refine bodyPost_ret (results_ct rfl _ _ w.heap.size 23 #[.int .i64 0, .int .i64 0, .int .i64 0, .int .i64 0, .int .i64 0] (0, 0) _ rfl (set5_blk (t := z5) (u := z5) K2.out) Try.underlying23 rfl (by kernel_rfl)) rfl ?_
      exact ⟨rfl, set5_below (g := w.heap.size) (t := z5) B2.out (Nat.le_refl _)⟩
theorem field39 (a b c d e : Int) (W : World) : (Instr.field 39 (.agg #[.int .i64 a, .int .i64 b, .int .i64 c, .int .i64 d, .int .i64 e]) 0).run Try.prog W = .ok (.agg #[.int .i64 a, .int .i64 b, .int .i64 c, .int .i64 d, .int .i64 e]) W := by kernel_rfl
set_option maxHeartbeats 8000000 in
set_option maxRecDepth 100000 in
theorem Find_yes (bit s : Int) (x : Tm) (xs : List Tm) (w : World) (b64 : -9223372036854775808 ≤ bit ∧ bit ≤ 9223372036854775807) (h : allL bit = x :: xs) (s0 : 0 ≤ s) (s1 : s ≤ 1000) :
    Calls Try.prog 20 #[.int .i64 bit, .int .i64 s] w fun e w' => e = .returned (.tuple #[.agg #[.int .i64 (minV s x xs).k, .int .i64 (minV s x xs).p, .int .i64 (minV s x xs).a, .int .i64 (minV s x xs).b, .int .i64 (minV s x xs).j], .bool true]) ∧ Below w.heap.size w w' := by
  have hu23 := Try.underlying23
  have hu39 := Try.underlying39
  have hu51 := Try.underlying51
  have hfd := field39
  have H := Aside0.mk h
  have H64 := Aside0.mk b64
  have S01 := Aside0.mk (And.intro s0 s1)
  have K0 : Aside0 ((w.alloc (.cells #[.int .i64 0, .int .i64 0, .int .i64 0, .int .i64 0, .int .i64 0] 23)).heap[w.heap.size]? = some (.cells #[.int .i64 0, .int .i64 0, .int .i64 0, .int .i64 0, .int .i64 0] 23 (0, 0))) := ⟨blk_new _ _⟩
  have B0 : Aside0 (Below w.heap.size w (w.alloc (.cells #[.int .i64 0, .int .i64 0, .int .i64 0, .int .i64 0, .int .i64 0] 23))) := ⟨below_alloc (Below.refl _ _) _⟩
  have v3 : decide (s < 0) = false := decide_eq_false (by omega)
  have v4 : decide (s > 1000) = false := decide_eq_false (by omega)
  have v5 : decide (1000 < s) = false := decide_eq_false (by omega)
  clear h b64 s0 s1
  go_enter Try.func20, Try.ntmps20
  go_wp2_with fail
  (with_reducible refine (All_calls' bit _).mono ?_); rintro e w1 ⟨rfl, rfl⟩
  have K1 := Aside0.mk (blk_below K0.out (below_alloc (Below.refl _ _) (.cells #[.int .i64 bit] 2)))
  have B1 := Aside0.mk (below_alloc B0.out (.cells #[.int .i64 bit] 2))
  have KB : Aside0 (((w.alloc (.cells #[.int .i64 0, .int .i64 0, .int .i64 0, .int .i64 0, .int .i64 0] 23)).alloc (.cells #[.int .i64 bit] 2)).heap[w.heap.size + 1]? = some (.cells #[.int .i64 bit] 2 (0, 0))) := ⟨by
    have := blk_new (w.alloc (.cells #[.int .i64 0, .int .i64 0, .int .i64 0, .int .i64 0, .int .i64 0] 23)) (.cells #[.int .i64 bit] 2)
    rwa [World.size_alloc] at this⟩
  clear K0 B0
  go_wp2_with fail
  (with_reducible refine (Collect_calls _ bit _ H64.out KB.out).mono ?_); rintro e w2 ⟨v, rfl, ho, hb⟩
  have K2 := Aside0.mk (blk_below K1.out hb)
  have B2 := Aside0.mk (below_step B1.out hb)
  rw [H.out] at ho
  obtain ⟨g, c, rfl, hc, hrows⟩ := rows5 ho rfl (by simp)
  have HR := Aside0.mk (And.intro hrows hc)
  have hlen := allL_len bit
  have hrt := allL_right bit
  rw [H.out] at hlen hrt
  have HL := Aside0.mk (And.intro hlen hrt)
  rw [show (x :: xs).length = xs.length + 1 from rfl] at *
  have v1 : (((xs.length : Int) + 1) == 0) = false := beq_eq_false_iff_ne.mpr (by omega)
  have v2 : (((xs.length : Int) + 1) = 0) = False := eq_false (by omega)
  clear ho hb K1 B1 KB hc hrows hlen hrt
  go_wp2_with fail
  (with_reducible refine (Min_calls s ⟨g, 0, none⟩ c x xs _ HR.out.1 HR.out.2 (by have := HL.out.1; omega) (HL.out.2 x List.mem_cons_self) (fun y hy => HL.out.2 y (List.mem_cons_of_mem _ hy)) S01.out.1 S01.out.2).mono ?_); rintro e w3 ⟨rfl, hb⟩
  have K3 := Aside0.mk (blk_below K2.out hb)
  have B3 := Aside0.mk (below_step B2.out hb)
  obtain ⟨d0, d1, d2, d3, d4⟩ := tm_cells (t := ⟨0, 0, 0, 0, 0⟩) K3.out
  obtain ⟨f0, f1, f2, f3, f4⟩ := tm_frz K3.out
  dsimp only at d0 d1 d2 d3 d4
  clear hb K2 B2
  go_wp2_with fail
  (try simp only [Exit.jump])
  refine bodyPost_ret (results_ct rfl _ _ w.heap.size 23 #[.int .i64 (minV s x xs).k, .int .i64 (minV s x xs).p, .int .i64 (minV s x xs).a, .int .i64 (minV s x xs).b, .int .i64 (minV s x xs).j] (0, 0) _ rfl (set5_blk (t := minV s x xs) (u := z5) K3.out) Try.underlying23 rfl (by kernel_rfl)) rfl ?_
  exact ⟨rfl, set5_below (g := w.heap.size) (t := minV s x xs) B3.out (Nat.le_refl _)⟩
theorem Find_calls (bit s : Int) (w : World) (b64 : -9223372036854775808 ≤ bit ∧ bit ≤ 9223372036854775807) :
    Calls Try.prog 20 #[.int .i64 bit, .int .i64 s] w fun e w' => e = .returned (.tuple #[.agg #[.int .i64 (findV bit s).1.k, .int .i64 (findV bit s).1.p, .int .i64 (findV bit s).1.a, .int .i64 (findV bit s).1.b, .int .i64 (findV bit s).1.j], .bool (findV bit s).2]) ∧ Below w.heap.size w w' := by
  cases h : allL bit with
  | nil =>
    have e : findV bit s = (z5, false) := by unfold findV; rw [h]
    rw [e]
    exact Find_no bit s w b64 (.inl h)
  | cons x xs =>
    by_cases hs : s < 0 ∨ s > 1000
    · have e : findV bit s = (z5, false) := by unfold findV; rw [h]; exact if_pos hs
      rw [e]
      exact Find_no bit s w b64 (.inr hs)
    · have e : findV bit s = (minV s x xs, true) := by unfold findV; rw [h]; exact if_neg hs
      rw [e]
      exact Find_yes bit s x xs w b64 h (by omega) (by omega)
end Go.Proofs.Ytgekhkigeanajaa.P
