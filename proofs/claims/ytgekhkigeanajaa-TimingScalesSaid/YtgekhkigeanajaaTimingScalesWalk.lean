/- Twice the ticks, a greater jump, a small edge: the walk. Condition: the numbers are of their kinds. -/
import Derived.Test.YtgekhkigeanajaaTimingScalesPlain
import Derived.Test.YtgekhkigeanajaaTimingIsWalk
namespace Go.Proofs.Ytgekhkigeanajaa.P
open Go.RowKit Go.Proofs.YtgekhkigeanajaaW.PrintWords Go.Proofs.YtgekhkigeanajaaW.PrintLast Go.Proofs.YtgekhkigeanajaaW.PrintMore
set_option linter.unusedVariables false
set_option linter.unusedSimpArgs false
set_option maxHeartbeats 40000000 in
set_option maxRecDepth 100000 in
theorem Scales_no (t : Tm) (l : Int) (w : World) (h : t.rightB = false) : Calls Try.prog 6 #[t.g, .int .i64 l] w fun e w' => e = .returned (.bool true) ∧ Below w.heap.size w w' := by
  have hu23 := Try.underlying23
  have H9 := Aside0.mk (cRRight t)
  have H12 := Aside0.mk (cBit t)
  rw [h] at H9
  rw [not_bit h] at H12
  clear h
  have Z := Aside0.mk (Tb.made t w)
  obtain ⟨c0, c1, c2, c3, c4⟩ := tm_cells Z.out.k
  go_enter Try.func6, Try.ntmps6
  go_wp2_with
    (first
      | (go_at_call 7; (with_reducible refine (live_calls _).mono ?_); rintro e w5 ⟨rfl, hb⟩; have n0 : Aside0 (Tb t w w5) := ⟨Z.out.below hb⟩; clear hb; clear Z; have Z := n0; clear n0; clear c0 c1 c2 c3 c4; obtain ⟨c0, c1, c2, c3, c4⟩ := tm_cells Z.out.k)
      | (go_at_call 9; (with_reducible refine (H9.out _).mono ?_); rintro e w5 ⟨rfl, hb⟩; have n0 : Aside0 (Tb t w w5) := ⟨Z.out.below hb⟩; clear hb; clear Z; have Z := n0; clear n0; clear c0 c1 c2 c3 c4; obtain ⟨c0, c1, c2, c3, c4⟩ := tm_cells Z.out.k)
      | (go_at_call 12; (with_reducible refine (H12.out _).mono ?_); rintro e w5 ⟨rfl, hb⟩; have n0 : Aside0 (Tb t w w5) := ⟨Z.out.below hb⟩; clear hb; clear Z; have Z := n0; clear n0; clear c0 c1 c2 c3 c4; obtain ⟨c0, c1, c2, c3, c4⟩ := tm_cells Z.out.k))
  go_ret
  exact ⟨rfl, Z.out.B⟩
/-- Three structs' cells: the first at the call's own memory. -/
structure Tc (t u v : Tm) (gu gv : Nat) (w W : World) : Prop where
  k : W.heap[w.heap.size]? = some t.cs
  ku : W.heap[gu]? = some u.cs
  kv : W.heap[gv]? = some v.cs
  n1 : gu ≠ w.heap.size
  n2 : gv ≠ w.heap.size
  n3 : gu ≠ gv
  l1 : w.heap.size ≤ gu
  l2 : w.heap.size ≤ gv
  B : Below w.heap.size w W
section
variable {t u v : Tm} {gu gv : Nat} {w W W' : World}
theorem Tc.below (h : Tc t u v gu gv w W) (hb : Below W.heap.size W W') : Tc t u v gu gv w W' := ⟨blk_below h.k hb, blk_below h.ku hb, blk_below h.kv hb, h.n1, h.n2, h.n3, h.l1, h.l2, below_step h.B hb⟩
theorem Tc.drew (h : Tc t u v gu gv w W) : Tc t u v gu gv w W.drew := h.below (below_drew1 (Below.refl _ _))
theorem Tc.drewN (h : Tc t u v gu gv w W) (n : Nat) : Tc t u v gu gv w (W.drewN n) := h.below (pw_below_drewN (Below.refl _ _) n)
end
theorem Tc.swap {t u v : Tm} {gu gv : Nat} {w W : World} (h : Tc t u v gu gv w W) : Tc t v u gv gu w W := ⟨h.k, h.kv, h.ku, h.n2, h.n1, Ne.symm h.n3, h.l2, h.l1, h.B⟩
theorem Tc.made {t : Tm} {w W : World} (h : Tb t w W) (u v : Tm) : Tc t u v W.heap.size (W.heap.size + 1) w ((W.alloc u.cs).alloc v.cs).drew := by
  have h0 := h.B.size
  have h1 := blk_lt h.k
  refine ⟨blk_alloc (blk_alloc h.k _) _, blk_alloc (blk_new _ _) _, ?_, by omega, by omega, by omega, h0, by omega, below_drew1 (below_alloc (below_alloc h.B _) _)⟩
  have := blk_new (W.alloc u.cs) v.cs
  rwa [World.size_alloc] at this
theorem two_k {t : Tm} (h : t.rightB = true) : wrap64 (2 * t.k) = 2 * t.k := by
  have := Tm.right_of h
  exact wr_small _ (by omega) (by omega)
theorem one_j {t : Tm} (h : t.rightB = true) : wrap64 (t.j + 1) = t.j + 1 := by
  have := Tm.right_of h
  exact wr_small _ (by omega) (by omega)
set_option maxHeartbeats 40000000 in
set_option maxRecDepth 100000 in
theorem Scales_yes (t : Tm) (l : Int) (w : World) (h : t.rightB = true) : Calls Try.prog 6 #[t.g, .int .i64 l] w fun e w' => e = .returned (.bool true) ∧ Below w.heap.size w w' := by
  have hu23 := Try.underlying23
  have H := Aside0.mk h
  have H9 := Aside0.mk (cRRight t)
  rw [h] at H9
  clear h
  have Z := Aside0.mk (Tb.made t w)
  obtain ⟨c0, c1, c2, c3, c4⟩ := tm_cells Z.out.k
  go_enter Try.func6, Try.ntmps6
  go_wp2_with
    (first
      | (go_at_call 9; (with_reducible refine (H9.out _).mono ?_); rintro e w5 ⟨rfl, hb⟩; have n0 : Aside0 (Tb t w w5) := ⟨Z.out.below hb⟩; clear hb; clear Z; have Z := n0; clear n0; clear c0 c1 c2 c3 c4; obtain ⟨c0, c1, c2, c3, c4⟩ := tm_cells Z.out.k))
  go_region_held3 (fun w' => w'.cell? ⟨w.heap.size, 0, none⟩ = some (.int .i64 t.k) ∧ w'.cell? ⟨w.heap.size, 1, none⟩ = some (.int .i64 t.p) ∧ w'.cell? ⟨w.heap.size, 2, none⟩ = some (.int .i64 t.a) ∧ w'.cell? ⟨w.heap.size, 3, none⟩ = some (.int .i64 t.b) ∧ w'.cell? ⟨w.heap.size, 4, none⟩ = some (.int .i64 t.j)) (go_keep) (fail)
  go_wp2
  rw [two_k H.out, one_j H.out]
  obtain ⟨u, eu⟩ : ∃ u, Aside0 (u = t.twice) := ⟨_, ⟨rfl⟩⟩
  obtain ⟨v, ev⟩ : ∃ v, Aside0 (v = t.more) := ⟨_, ⟨rfl⟩⟩
  have Z6 : Tc t u v (w5.heap.size) (w5.heap.size + 1) w (((w5.alloc (.cells #[.int .i64 (2 * t.k), .int .i64 t.p, .int .i64 t.a, .int .i64 t.b, .int .i64 t.j] 23)).alloc (.cells #[.int .i64 t.k, .int .i64 t.p, .int .i64 t.a, .int .i64 t.b, .int .i64 (t.j + 1)] 23)).drew) := by
    obtain ⟨eu⟩ := eu
    obtain ⟨ev⟩ := ev
    subst eu ev
    exact Tc.made Z.out t.twice t.more
  clear Z c0 c1 c2 c3 c4
  generalize ((w5.alloc (.cells #[.int .i64 (2 * t.k), .int .i64 t.p, .int .i64 t.a, .int .i64 t.b, .int .i64 t.j] 23)).alloc (.cells #[.int .i64 t.k, .int .i64 t.p, .int .i64 t.a, .int .i64 t.b, .int .i64 (t.j + 1)] 23)).drew = W6 at Z6 ⊢
  generalize w5.heap.size + 1 = gv at Z6 ⊢
  generalize w5.heap.size = gu at Z6 ⊢
  have Z := Aside0.mk Z6
  clear Z6
  have U9 := Aside0.mk (cRRight u)
  obtain ⟨c0, c1, c2, c3, c4⟩ := tm_cells Z.out.k; obtain ⟨d0, d1, d2, d3, d4⟩ := tm_cells Z.out.ku; obtain ⟨e0, e1, e2, e3, e4⟩ := tm_cells Z.out.kv
  rotate_left
  go_wp2
  rw [two_k H.out, one_j H.out]
  obtain ⟨u, eu⟩ : ∃ u, Aside0 (u = t.twice) := ⟨_, ⟨rfl⟩⟩
  obtain ⟨v, ev⟩ : ∃ v, Aside0 (v = t.more) := ⟨_, ⟨rfl⟩⟩
  have Z6 : Tc t u v (w5.heap.size + 1) (w5.heap.size) w (((w5.alloc (.cells #[.int .i64 t.k, .int .i64 t.p, .int .i64 t.a, .int .i64 t.b, .int .i64 (t.j + 1)] 23)).alloc (.cells #[.int .i64 (2 * t.k), .int .i64 t.p, .int .i64 t.a, .int .i64 t.b, .int .i64 t.j] 23)).drew) := by
    obtain ⟨eu⟩ := eu
    obtain ⟨ev⟩ := ev
    subst eu ev
    exact (Tc.made Z.out t.more t.twice).swap
  clear Z c0 c1 c2 c3 c4
  generalize ((w5.alloc (.cells #[.int .i64 t.k, .int .i64 t.p, .int .i64 t.a, .int .i64 t.b, .int .i64 (t.j + 1)] 23)).alloc (.cells #[.int .i64 (2 * t.k), .int .i64 t.p, .int .i64 t.a, .int .i64 t.b, .int .i64 t.j] 23)).drew = W6 at Z6 ⊢
  generalize w5.heap.size + 1 = gu at Z6 ⊢
  generalize w5.heap.size = gv at Z6 ⊢
  have Z := Aside0.mk Z6
  clear Z6
  have U9 := Aside0.mk (cRRight u)
  obtain ⟨c0, c1, c2, c3, c4⟩ := tm_cells Z.out.k; obtain ⟨d0, d1, d2, d3, d4⟩ := tm_cells Z.out.ku; obtain ⟨e0, e1, e2, e3, e4⟩ := tm_cells Z.out.kv
  all_goals (
    have V9 := Aside0.mk (cRRight v)
    by_cases hu : u.rightB = true
    case' pos =>
      rw [hu] at U9
      have U14 := Aside0.mk (cSample u)
      have T14 := Aside0.mk (cSample t)
      have U16 := Aside0.mk (cDrift u)
      have T16 := Aside0.mk (cDrift t)
      have U12 := Aside0.mk (cBit u)
      have T12 := Aside0.mk (cBit t)
      have hu' := hu
      rw [eu.out] at hu'
      have e1 : u.samV = t.samV := by rw [eu.out]; exact twice_sam H.out hu'
      have e2 : u.driV = t.driV := by rw [eu.out]; exact twice_dri H.out hu'
      have e3 : u.bitV = wrap64 (2 * t.bitV) := by rw [eu.out]; exact twice_bit H.out hu'
      rw [e1] at U14
      rw [e2] at U16
      rw [e3] at U12
      clear e1 e2 e3 hu hu'
      generalize t.samV = s1 at U14 T14
      generalize t.driV = s2 at U16 T16
      generalize t.bitV = b at U12 T12
      obtain ⟨x, hx1⟩ : ∃ x, wrap64 (2 * b) = x := ⟨_, rfl⟩
      have hx2 : IntKind.i64.wrap (2 * b) = x := by rw [IntKind.wrap_i64, ← hx1]; unfold wrap64; omega
      rw [hx1] at U12
      have q1 : (s1 != s1) = false := by simp
      have q2 : (s2 != s2) = false := by simp
      have q3 : (x != x) = false := by simp
      go_region_held3 (fun w' => w'.cell? ⟨w.heap.size, 0, none⟩ = some (.int .i64 t.k) ∧ w'.cell? ⟨w.heap.size, 1, none⟩ = some (.int .i64 t.p) ∧ w'.cell? ⟨w.heap.size, 2, none⟩ = some (.int .i64 t.a) ∧ w'.cell? ⟨w.heap.size, 3, none⟩ = some (.int .i64 t.b) ∧ w'.cell? ⟨w.heap.size, 4, none⟩ = some (.int .i64 t.j) ∧ w'.cell? ⟨gu, 0, none⟩ = some (.int .i64 u.k) ∧ w'.cell? ⟨gu, 1, none⟩ = some (.int .i64 u.p) ∧ w'.cell? ⟨gu, 2, none⟩ = some (.int .i64 u.a) ∧ w'.cell? ⟨gu, 3, none⟩ = some (.int .i64 u.b) ∧ w'.cell? ⟨gu, 4, none⟩ = some (.int .i64 u.j) ∧ w'.cell? ⟨gv, 0, none⟩ = some (.int .i64 v.k) ∧ w'.cell? ⟨gv, 1, none⟩ = some (.int .i64 v.p) ∧ w'.cell? ⟨gv, 2, none⟩ = some (.int .i64 v.a) ∧ w'.cell? ⟨gv, 3, none⟩ = some (.int .i64 v.b) ∧ w'.cell? ⟨gv, 4, none⟩ = some (.int .i64 v.j)) (go_keep)
        (first
          | (go_at_call 9; (with_reducible refine (U9.out _).mono ?_); rintro e w6 ⟨rfl, hb⟩; have n0 : Aside0 (Tc t u v gu gv w w6) := ⟨(by first | exact Z.out.below hb | exact Z.out.drew.below hb)⟩; clear hb; clear Z; have Z := n0; clear n0; clear c0 c1 c2 c3 c4 d0 d1 d2 d3 d4 e0 e1 e2 e3 e4; obtain ⟨c0, c1, c2, c3, c4⟩ := tm_cells Z.out.k; obtain ⟨d0, d1, d2, d3, d4⟩ := tm_cells Z.out.ku; obtain ⟨e0, e1, e2, e3, e4⟩ := tm_cells Z.out.kv)
          | (go_at_call 14; (with_reducible refine (U14.out _).mono ?_); rintro e w6 ⟨rfl, hb⟩; have n0 : Aside0 (Tc t u v gu gv w w6) := ⟨(by first | exact Z.out.below hb | exact Z.out.drew.below hb)⟩; clear hb; clear Z; have Z := n0; clear n0; clear c0 c1 c2 c3 c4 d0 d1 d2 d3 d4 e0 e1 e2 e3 e4; obtain ⟨c0, c1, c2, c3, c4⟩ := tm_cells Z.out.k; obtain ⟨d0, d1, d2, d3, d4⟩ := tm_cells Z.out.ku; obtain ⟨e0, e1, e2, e3, e4⟩ := tm_cells Z.out.kv)
          | (go_at_call 14; (with_reducible refine (T14.out _).mono ?_); rintro e w6 ⟨rfl, hb⟩; have n0 : Aside0 (Tc t u v gu gv w w6) := ⟨(by first | exact Z.out.below hb | exact Z.out.drew.below hb)⟩; clear hb; clear Z; have Z := n0; clear n0; clear c0 c1 c2 c3 c4 d0 d1 d2 d3 d4 e0 e1 e2 e3 e4; obtain ⟨c0, c1, c2, c3, c4⟩ := tm_cells Z.out.k; obtain ⟨d0, d1, d2, d3, d4⟩ := tm_cells Z.out.ku; obtain ⟨e0, e1, e2, e3, e4⟩ := tm_cells Z.out.kv)
          | (go_at_call 16; (with_reducible refine (U16.out _).mono ?_); rintro e w6 ⟨rfl, hb⟩; have n0 : Aside0 (Tc t u v gu gv w w6) := ⟨(by first | exact Z.out.below hb | exact Z.out.drew.below hb)⟩; clear hb; clear Z; have Z := n0; clear n0; clear c0 c1 c2 c3 c4 d0 d1 d2 d3 d4 e0 e1 e2 e3 e4; obtain ⟨c0, c1, c2, c3, c4⟩ := tm_cells Z.out.k; obtain ⟨d0, d1, d2, d3, d4⟩ := tm_cells Z.out.ku; obtain ⟨e0, e1, e2, e3, e4⟩ := tm_cells Z.out.kv)
          | (go_at_call 16; (with_reducible refine (T16.out _).mono ?_); rintro e w6 ⟨rfl, hb⟩; have n0 : Aside0 (Tc t u v gu gv w w6) := ⟨(by first | exact Z.out.below hb | exact Z.out.drew.below hb)⟩; clear hb; clear Z; have Z := n0; clear n0; clear c0 c1 c2 c3 c4 d0 d1 d2 d3 d4 e0 e1 e2 e3 e4; obtain ⟨c0, c1, c2, c3, c4⟩ := tm_cells Z.out.k; obtain ⟨d0, d1, d2, d3, d4⟩ := tm_cells Z.out.ku; obtain ⟨e0, e1, e2, e3, e4⟩ := tm_cells Z.out.kv)
          | (go_at_call 12; (with_reducible refine (U12.out _).mono ?_); rintro e w6 ⟨rfl, hb⟩; have n0 : Aside0 (Tc t u v gu gv w w6) := ⟨(by first | exact Z.out.below hb | exact Z.out.drew.below hb)⟩; clear hb; clear Z; have Z := n0; clear n0; clear c0 c1 c2 c3 c4 d0 d1 d2 d3 d4 e0 e1 e2 e3 e4; obtain ⟨c0, c1, c2, c3, c4⟩ := tm_cells Z.out.k; obtain ⟨d0, d1, d2, d3, d4⟩ := tm_cells Z.out.ku; obtain ⟨e0, e1, e2, e3, e4⟩ := tm_cells Z.out.kv)
          | (go_at_call 12; (with_reducible refine (T12.out _).mono ?_); rintro e w6 ⟨rfl, hb⟩; have n0 : Aside0 (Tc t u v gu gv w w6) := ⟨(by first | exact Z.out.below hb | exact Z.out.drew.below hb)⟩; clear hb; clear Z; have Z := n0; clear n0; clear c0 c1 c2 c3 c4 d0 d1 d2 d3 d4 e0 e1 e2 e3 e4; obtain ⟨c0, c1, c2, c3, c4⟩ := tm_cells Z.out.k; obtain ⟨d0, d1, d2, d3, d4⟩ := tm_cells Z.out.ku; obtain ⟨e0, e1, e2, e3, e4⟩ := tm_cells Z.out.kv))
      clear q1 q2 q3 hx1 hx2 U14 T14 U16 T16 U12 T12
    case' neg =>
      have hu2 : u.rightB = false := by simpa using hu
      rw [hu2] at U9
      clear hu hu2
      refine wp_region_held_drew (S := (fun w' : World => w'.cell? ⟨gu, 0, none⟩ = some (.int .i64 u.k) ∧ w'.cell? ⟨gu, 1, none⟩ = some (.int .i64 u.p) ∧ w'.cell? ⟨gu, 2, none⟩ = some (.int .i64 u.a) ∧ w'.cell? ⟨gu, 3, none⟩ = some (.int .i64 u.b) ∧ w'.cell? ⟨gu, 4, none⟩ = some (.int .i64 u.j))) (by kernel_rfl) ⟨d0, d1, d2, d3, d4⟩ (fun hS0 => ?_)
      refine wpAnyH_take (i := 0) (oi := ⟨some 27, _, _, _, _, _⟩) (v := u.g) rfl (by kernel_rfl) (by kernel_rfl) (by kernel_rfl) (fun _ _ _ h => h) (Or.inl ⟨by rfl, fun w hSw => by (try dsimp only at hSw); go_simp⟩) (by assumption) ?_
      try simp only [Act.put, List.setIfInBounds_toArray, List.set_cons_zero, List.set_cons_succ]
      refine wpAnyH_ready (rs := [1]) (by kernel_rfl) (by simp) ?_
      refine AllReadyH.cons (o := ⟨some 28, _, _, _, _, _⟩) rfl (fun K hK => ?_) AllReadyH.nil
      go_simp
      go_at_call 9
      (with_reducible refine (U9.out _).mono ?_); rintro e w6 ⟨rfl, hb⟩; have n0 : Aside0 (Tc t u v gu gv w w6) := ⟨(by first|exact Z.out.below hb|exact Z.out.drew.below hb)⟩; clear hb; clear Z; have Z := n0; clear n0; clear c0 c1 c2 c3 c4 d0 d1 d2 d3 d4 e0 e1 e2 e3 e4; obtain ⟨c0, c1, c2, c3, c4⟩ := tm_cells Z.out.k; obtain ⟨d0, d1, d2, d3, d4⟩ := tm_cells Z.out.ku; obtain ⟨e0, e1, e2, e3, e4⟩ := tm_cells Z.out.kv
      dsimp only
      refine hK.out _ _ ⟨d0, d1, d2, d3, d4⟩ (fun hS1 => ?_)
      clear hK K
      try simp only [Act.put, List.setIfInBounds_toArray, List.set_cons_zero, List.set_cons_succ]
      refine wpAnyH_take (i := 2) (oi := ⟨some 29, _, _, _, _, _⟩) (v := (.bool false)) rfl (by kernel_rfl) (by kernel_rfl) (by kernel_rfl) (fun _ _ _ h => h) (Or.inl ⟨by rfl, fun w hSw => by (try dsimp only at hSw); go_simp⟩) (by assumption) ?_
      try simp only [Act.put, List.setIfInBounds_toArray, List.set_cons_zero, List.set_cons_succ]
      refine wpAnyH_take (i := 3) (oi := ⟨some 30, _, _, _, _, _⟩) (v := undef) rfl (by kernel_rfl) (by kernel_rfl) (by kernel_rfl) (fun _ _ _ h => h) (Or.inr ⟨by rfl, rfl⟩) (by assumption) ?_
      try simp only [Act.put, List.setIfInBounds_toArray, List.set_cons_zero, List.set_cons_succ]
      refine wpAnyH_take (i := 4) (oi := ⟨some 31, _, _, _, _, _⟩) (v := undef) rfl (by kernel_rfl) (by kernel_rfl) (by kernel_rfl) (fun _ _ _ h => h) (Or.inr ⟨by rfl, rfl⟩) (by assumption) ?_
      try simp only [Act.put, List.setIfInBounds_toArray, List.set_cons_zero, List.set_cons_succ]
      refine wpAnyH_take (i := 5) (oi := ⟨some 32, _, _, _, _, _⟩) (v := undef) rfl (by kernel_rfl) (by kernel_rfl) (by kernel_rfl) (fun _ _ _ h => h) (Or.inr ⟨by rfl, rfl⟩) (by assumption) ?_
      try simp only [Act.put, List.setIfInBounds_toArray, List.set_cons_zero, List.set_cons_succ]
      refine wpAnyH_take (i := 6) (oi := ⟨some 33, _, _, _, _, _⟩) (v := undef) rfl (by kernel_rfl) (by kernel_rfl) (by kernel_rfl) (fun _ _ _ h => h) (Or.inr ⟨by rfl, rfl⟩) (by assumption) ?_
      try simp only [Act.put, List.setIfInBounds_toArray, List.set_cons_zero, List.set_cons_succ]
      refine wpAnyH_take (i := 7) (oi := ⟨some 34, _, _, _, _, _⟩) (v := undef) rfl (by kernel_rfl) (by kernel_rfl) (by kernel_rfl) (fun _ _ _ h => h) (Or.inr ⟨by rfl, rfl⟩) (by assumption) ?_
      try simp only [Act.put, List.setIfInBounds_toArray, List.set_cons_zero, List.set_cons_succ]
      refine wpAnyH_take (i := 8) (oi := ⟨some 35, _, _, _, _, _⟩) (v := undef) rfl (by kernel_rfl) (by kernel_rfl) (by kernel_rfl) (fun _ _ _ h => h) (Or.inr ⟨by rfl, rfl⟩) (by assumption) ?_
      try simp only [Act.put, List.setIfInBounds_toArray, List.set_cons_zero, List.set_cons_succ]
      refine wpAnyH_take (i := 9) (oi := ⟨some 36, _, _, _, _, _⟩) (v := undef) rfl (by kernel_rfl) (by kernel_rfl) (by kernel_rfl) (fun _ _ _ h => h) (Or.inr ⟨by rfl, rfl⟩) (by assumption) ?_
      try simp only [Act.put, List.setIfInBounds_toArray, List.set_cons_zero, List.set_cons_succ]
      refine wpAnyH_take (i := 10) (oi := ⟨some 37, _, _, _, _, _⟩) (v := undef) rfl (by kernel_rfl) (by kernel_rfl) (by kernel_rfl) (fun _ _ _ h => h) (Or.inr ⟨by rfl, rfl⟩) (by assumption) ?_
      try simp only [Act.put, List.setIfInBounds_toArray, List.set_cons_zero, List.set_cons_succ]
      refine wpAnyH_take (i := 11) (oi := ⟨some 38, _, _, _, _, _⟩) (v := undef) rfl (by kernel_rfl) (by kernel_rfl) (by kernel_rfl) (fun _ _ _ h => h) (Or.inr ⟨by rfl, rfl⟩) (by assumption) ?_
      try simp only [Act.put, List.setIfInBounds_toArray, List.set_cons_zero, List.set_cons_succ]
      refine wpAnyH_take (i := 12) (oi := ⟨some 39, _, _, _, _, _⟩) (v := undef) rfl (by kernel_rfl) (by kernel_rfl) (by kernel_rfl) (fun _ _ _ h => h) (Or.inr ⟨by rfl, rfl⟩) (by assumption) ?_
      try simp only [Act.put, List.setIfInBounds_toArray, List.set_cons_zero, List.set_cons_succ]
      refine wpAnyH_take (i := 13) (oi := ⟨some 40, _, _, _, _, _⟩) (v := undef) rfl (by kernel_rfl) (by kernel_rfl) (by kernel_rfl) (fun _ _ _ h => h) (Or.inr ⟨by rfl, rfl⟩) (by assumption) ?_
      try simp only [Act.put, List.setIfInBounds_toArray, List.set_cons_zero, List.set_cons_succ]
      refine wpAnyH_take (i := 14) (oi := ⟨some 41, _, _, _, _, _⟩) (v := undef) rfl (by kernel_rfl) (by kernel_rfl) (by kernel_rfl) (fun _ _ _ h => h) (Or.inr ⟨by rfl, rfl⟩) (by assumption) ?_
      try simp only [Act.put, List.setIfInBounds_toArray, List.set_cons_zero, List.set_cons_succ]
      refine wpAnyH_take (i := 15) (oi := ⟨some 42, _, _, _, _, _⟩) (v := undef) rfl (by kernel_rfl) (by kernel_rfl) (by kernel_rfl) (fun _ _ _ h => h) (Or.inr ⟨by rfl, rfl⟩) (by assumption) ?_
      try simp only [Act.put, List.setIfInBounds_toArray, List.set_cons_zero, List.set_cons_succ]
      refine wpAnyH_take (i := 16) (oi := ⟨some 43, _, _, _, _, _⟩) (v := undef) rfl (by kernel_rfl) (by kernel_rfl) (by kernel_rfl) (fun _ _ _ h => h) (Or.inr ⟨by rfl, rfl⟩) (by assumption) ?_
      try simp only [Act.put, List.setIfInBounds_toArray, List.set_cons_zero, List.set_cons_succ]
      refine wpAnyH_take (i := 17) (oi := ⟨some 44, _, _, _, _, _⟩) (v := undef) rfl (by kernel_rfl) (by kernel_rfl) (by kernel_rfl) (fun _ _ _ h => h) (Or.inr ⟨by rfl, rfl⟩) (by assumption) ?_
      try simp only [Act.put, List.setIfInBounds_toArray, List.set_cons_zero, List.set_cons_succ]
      refine wpAnyH_take (i := 18) (oi := ⟨some 45, _, _, _, _, _⟩) (v := undef) rfl (by kernel_rfl) (by kernel_rfl) (by kernel_rfl) (fun _ _ _ h => h) (Or.inr ⟨by rfl, rfl⟩) (by assumption) ?_
      try simp only [Act.put, List.setIfInBounds_toArray, List.set_cons_zero, List.set_cons_succ]
      refine wpAnyH_take (i := 19) (oi := ⟨some 46, _, _, _, _, _⟩) (v := undef) rfl (by kernel_rfl) (by kernel_rfl) (by kernel_rfl) (fun _ _ _ h => h) (Or.inr ⟨by rfl, rfl⟩) (by assumption) ?_
      try simp only [Act.put, List.setIfInBounds_toArray, List.set_cons_zero, List.set_cons_succ]
      refine wpAnyH_take (i := 20) (oi := ⟨some 47, _, _, _, _, _⟩) (v := undef) rfl (by kernel_rfl) (by kernel_rfl) (by kernel_rfl) (fun _ _ _ h => h) (Or.inr ⟨by rfl, rfl⟩) (by assumption) ?_
      try simp only [Act.put, List.setIfInBounds_toArray, List.set_cons_zero, List.set_cons_succ]
      refine wpAnyH_take (i := 21) (oi := ⟨some 48, _, _, _, _, _⟩) (v := undef) rfl (by kernel_rfl) (by kernel_rfl) (by kernel_rfl) (fun _ _ _ h => h) (Or.inr ⟨by rfl, rfl⟩) (by assumption) ?_
      try simp only [Act.put, List.setIfInBounds_toArray, List.set_cons_zero, List.set_cons_succ]
      refine wpAnyH_take (i := 22) (oi := ⟨some 49, _, _, _, _, _⟩) (v := undef) rfl (by kernel_rfl) (by kernel_rfl) (by kernel_rfl) (fun _ _ _ h => h) (Or.inr ⟨by rfl, rfl⟩) (by assumption) ?_
      try simp only [Act.put, List.setIfInBounds_toArray, List.set_cons_zero, List.set_cons_succ]
      refine wpAnyH_take (i := 23) (oi := ⟨some 50, _, _, _, _, _⟩) (v := (.bool false)) rfl (by kernel_rfl) (by kernel_rfl) (by kernel_rfl) (fun _ _ _ h => h) (Or.inl ⟨by rfl, fun w hSw => by (try dsimp only at hSw); go_simp⟩) (by assumption) ?_
      try simp only [Act.put, List.setIfInBounds_toArray, List.set_cons_zero, List.set_cons_succ]
      refine wpAnyH_done (by kernel_rfl) ?_ _
    all_goals (
      go_wp2
      by_cases hv : v.rightB = true
      case' pos =>
        rw [hv] at V9
        have V16 := Aside0.mk (cDrift v)
        have T16 := Aside0.mk (cDrift t)
        have q1 : decide (v.driV < t.driV) = false := by
          rw [ev.out] at hv ⊢
          have := more_dri H.out hv
          simpa using this
        clear hv
        generalize v.driV = s3 at V16 q1
        generalize t.driV = s4 at T16 q1
        go_region_held3 (fun w' => w'.cell? ⟨w.heap.size, 0, none⟩ = some (.int .i64 t.k) ∧ w'.cell? ⟨w.heap.size, 1, none⟩ = some (.int .i64 t.p) ∧ w'.cell? ⟨w.heap.size, 2, none⟩ = some (.int .i64 t.a) ∧ w'.cell? ⟨w.heap.size, 3, none⟩ = some (.int .i64 t.b) ∧ w'.cell? ⟨w.heap.size, 4, none⟩ = some (.int .i64 t.j) ∧ w'.cell? ⟨gu, 0, none⟩ = some (.int .i64 u.k) ∧ w'.cell? ⟨gu, 1, none⟩ = some (.int .i64 u.p) ∧ w'.cell? ⟨gu, 2, none⟩ = some (.int .i64 u.a) ∧ w'.cell? ⟨gu, 3, none⟩ = some (.int .i64 u.b) ∧ w'.cell? ⟨gu, 4, none⟩ = some (.int .i64 u.j) ∧ w'.cell? ⟨gv, 0, none⟩ = some (.int .i64 v.k) ∧ w'.cell? ⟨gv, 1, none⟩ = some (.int .i64 v.p) ∧ w'.cell? ⟨gv, 2, none⟩ = some (.int .i64 v.a) ∧ w'.cell? ⟨gv, 3, none⟩ = some (.int .i64 v.b) ∧ w'.cell? ⟨gv, 4, none⟩ = some (.int .i64 v.j)) (go_keep)
          (first
            | (go_at_call 9; (with_reducible refine (V9.out _).mono ?_); rintro e w6 ⟨rfl, hb⟩; have n0 : Aside0 (Tc t u v gu gv w w6) := ⟨(by first | exact Z.out.below hb | exact Z.out.drew.below hb)⟩; clear hb; clear Z; have Z := n0; clear n0; clear c0 c1 c2 c3 c4 d0 d1 d2 d3 d4 e0 e1 e2 e3 e4; obtain ⟨c0, c1, c2, c3, c4⟩ := tm_cells Z.out.k; obtain ⟨d0, d1, d2, d3, d4⟩ := tm_cells Z.out.ku; obtain ⟨e0, e1, e2, e3, e4⟩ := tm_cells Z.out.kv)
            | (go_at_call 16; (with_reducible refine (V16.out _).mono ?_); rintro e w6 ⟨rfl, hb⟩; have n0 : Aside0 (Tc t u v gu gv w w6) := ⟨(by first | exact Z.out.below hb | exact Z.out.drew.below hb)⟩; clear hb; clear Z; have Z := n0; clear n0; clear c0 c1 c2 c3 c4 d0 d1 d2 d3 d4 e0 e1 e2 e3 e4; obtain ⟨c0, c1, c2, c3, c4⟩ := tm_cells Z.out.k; obtain ⟨d0, d1, d2, d3, d4⟩ := tm_cells Z.out.ku; obtain ⟨e0, e1, e2, e3, e4⟩ := tm_cells Z.out.kv)
            | (go_at_call 16; (with_reducible refine (T16.out _).mono ?_); rintro e w6 ⟨rfl, hb⟩; have n0 : Aside0 (Tc t u v gu gv w w6) := ⟨(by first | exact Z.out.below hb | exact Z.out.drew.below hb)⟩; clear hb; clear Z; have Z := n0; clear n0; clear c0 c1 c2 c3 c4 d0 d1 d2 d3 d4 e0 e1 e2 e3 e4; obtain ⟨c0, c1, c2, c3, c4⟩ := tm_cells Z.out.k; obtain ⟨d0, d1, d2, d3, d4⟩ := tm_cells Z.out.ku; obtain ⟨e0, e1, e2, e3, e4⟩ := tm_cells Z.out.kv))
      case' neg =>
        have hv2 : v.rightB = false := by simpa using hv
        rw [hv2] at V9
        clear hv hv2
        refine wp_region_held_drew (S := (fun w' : World => w'.cell? ⟨gv, 0, none⟩ = some (.int .i64 v.k) ∧ w'.cell? ⟨gv, 1, none⟩ = some (.int .i64 v.p) ∧ w'.cell? ⟨gv, 2, none⟩ = some (.int .i64 v.a) ∧ w'.cell? ⟨gv, 3, none⟩ = some (.int .i64 v.b) ∧ w'.cell? ⟨gv, 4, none⟩ = some (.int .i64 v.j))) (by kernel_rfl) ⟨e0, e1, e2, e3, e4⟩ (fun hS0 => ?_)
        refine wpAnyH_take (i := 0) (oi := ⟨some 51, _, _, _, _, _⟩) (v := v.g) rfl (by kernel_rfl) (by kernel_rfl) (by kernel_rfl) (fun _ _ _ h => h) (Or.inl ⟨by rfl, fun w hSw => by (try dsimp only at hSw); go_simp⟩) (by assumption) ?_
        try simp only [Act.put, List.setIfInBounds_toArray, List.set_cons_zero, List.set_cons_succ]
        refine wpAnyH_ready (rs := [1]) (by kernel_rfl) (by simp) ?_
        refine AllReadyH.cons (o := ⟨some 52, _, _, _, _, _⟩) rfl (fun K hK => ?_) AllReadyH.nil
        go_simp
        go_at_call 9
        (with_reducible refine (V9.out _).mono ?_); rintro e w6 ⟨rfl, hb⟩; have n0 : Aside0 (Tc t u v gu gv w w6) := ⟨(by first|exact Z.out.below hb|exact Z.out.drew.below hb)⟩; clear hb; clear Z; have Z := n0; clear n0; clear c0 c1 c2 c3 c4 d0 d1 d2 d3 d4 e0 e1 e2 e3 e4; obtain ⟨c0, c1, c2, c3, c4⟩ := tm_cells Z.out.k; obtain ⟨d0, d1, d2, d3, d4⟩ := tm_cells Z.out.ku; obtain ⟨e0, e1, e2, e3, e4⟩ := tm_cells Z.out.kv
        dsimp only
        refine hK.out _ _ ⟨e0, e1, e2, e3, e4⟩ (fun hS1 => ?_)
        clear hK K
        try simp only [Act.put, List.setIfInBounds_toArray, List.set_cons_zero, List.set_cons_succ]
        refine wpAnyH_take (i := 2) (oi := ⟨some 53, _, _, _, _, _⟩) (v := (.bool false)) rfl (by kernel_rfl) (by kernel_rfl) (by kernel_rfl) (fun _ _ _ h => h) (Or.inl ⟨by rfl, fun w hSw => by (try dsimp only at hSw); go_simp⟩) (by assumption) ?_
        try simp only [Act.put, List.setIfInBounds_toArray, List.set_cons_zero, List.set_cons_succ]
        refine wpAnyH_take (i := 3) (oi := ⟨some 54, _, _, _, _, _⟩) (v := undef) rfl (by kernel_rfl) (by kernel_rfl) (by kernel_rfl) (fun _ _ _ h => h) (Or.inr ⟨by rfl, rfl⟩) (by assumption) ?_
        try simp only [Act.put, List.setIfInBounds_toArray, List.set_cons_zero, List.set_cons_succ]
        refine wpAnyH_take (i := 4) (oi := ⟨some 55, _, _, _, _, _⟩) (v := undef) rfl (by kernel_rfl) (by kernel_rfl) (by kernel_rfl) (fun _ _ _ h => h) (Or.inr ⟨by rfl, rfl⟩) (by assumption) ?_
        try simp only [Act.put, List.setIfInBounds_toArray, List.set_cons_zero, List.set_cons_succ]
        refine wpAnyH_take (i := 5) (oi := ⟨some 56, _, _, _, _, _⟩) (v := undef) rfl (by kernel_rfl) (by kernel_rfl) (by kernel_rfl) (fun _ _ _ h => h) (Or.inr ⟨by rfl, rfl⟩) (by assumption) ?_
        try simp only [Act.put, List.setIfInBounds_toArray, List.set_cons_zero, List.set_cons_succ]
        refine wpAnyH_take (i := 6) (oi := ⟨some 57, _, _, _, _, _⟩) (v := undef) rfl (by kernel_rfl) (by kernel_rfl) (by kernel_rfl) (fun _ _ _ h => h) (Or.inr ⟨by rfl, rfl⟩) (by assumption) ?_
        try simp only [Act.put, List.setIfInBounds_toArray, List.set_cons_zero, List.set_cons_succ]
        refine wpAnyH_take (i := 7) (oi := ⟨some 58, _, _, _, _, _⟩) (v := undef) rfl (by kernel_rfl) (by kernel_rfl) (by kernel_rfl) (fun _ _ _ h => h) (Or.inr ⟨by rfl, rfl⟩) (by assumption) ?_
        try simp only [Act.put, List.setIfInBounds_toArray, List.set_cons_zero, List.set_cons_succ]
        refine wpAnyH_take (i := 8) (oi := ⟨some 59, _, _, _, _, _⟩) (v := (.bool false)) rfl (by kernel_rfl) (by kernel_rfl) (by kernel_rfl) (fun _ _ _ h => h) (Or.inl ⟨by rfl, fun w hSw => by (try dsimp only at hSw); go_simp⟩) (by assumption) ?_
        try simp only [Act.put, List.setIfInBounds_toArray, List.set_cons_zero, List.set_cons_succ]
        refine wpAnyH_done (by kernel_rfl) ?_ _
      all_goals (
        clear U9 V9
        have M := Aside0.mk (cMoved t (Int.tmod l (t.j + 1)))
        rw [near_mov H.out] at M
        have hj := one_j H.out
        have hj0 : ¬ wrap64 (t.j + 1) = 0 := by have := Tm.right_of H.out; rw [hj]; omega
        have qn : (Int.tmod l (t.j + 1) == Int.tmod l (t.j + 1)) = true := by simp
        go_wp2_with
          (first
            | (go_at_call 7; (with_reducible refine (live_calls _).mono ?_); rintro e w6 ⟨rfl, hb⟩; have n0 : Aside0 (Tc t u v gu gv w w6) := ⟨(by first | exact Z.out.below hb | exact Z.out.drew.below hb)⟩; clear hb; clear Z; have Z := n0; clear n0; clear c0 c1 c2 c3 c4 d0 d1 d2 d3 d4 e0 e1 e2 e3 e4; obtain ⟨c0, c1, c2, c3, c4⟩ := tm_cells Z.out.k; obtain ⟨d0, d1, d2, d3, d4⟩ := tm_cells Z.out.ku; obtain ⟨e0, e1, e2, e3, e4⟩ := tm_cells Z.out.kv)
            | (go_at_call 18; (with_reducible refine (M.out _).mono ?_); rintro e w6 ⟨rfl, hb⟩; have n0 : Aside0 (Tc t u v gu gv w w6) := ⟨(by first | exact Z.out.below hb | exact Z.out.drew.below hb)⟩; clear hb; clear Z; have Z := n0; clear n0; clear c0 c1 c2 c3 c4 d0 d1 d2 d3 d4 e0 e1 e2 e3 e4; obtain ⟨c0, c1, c2, c3, c4⟩ := tm_cells Z.out.k; obtain ⟨d0, d1, d2, d3, d4⟩ := tm_cells Z.out.ku; obtain ⟨e0, e1, e2, e3, e4⟩ := tm_cells Z.out.kv))
        go_ret
        exact ⟨rfl, Z.out.B⟩)))
theorem TimingScales_walk (k p a b j l : Int) (w : World) (w0 : (Lit.int .i64 k).wf = true) (w1 : (Lit.int .i64 p).wf = true) (w2 : (Lit.int .i64 a).wf = true) (w3 : (Lit.int .i64 b).wf = true) (w4 : (Lit.int .i64 j).wf = true) (w5 : (Lit.int .i64 l).wf = true) :
    Calls Try.prog 6 #[.agg #[.int .i64 k, .int .i64 p, .int .i64 a, .int .i64 b, .int .i64 j], .int .i64 l] w fun e w' => e = .returned (.bool true) ∧ Below w.heap.size w w' := by
  cases h : Tm.rightB ⟨k, p, a, b, j⟩
  · exact Scales_no ⟨k, p, a, b, j⟩ l w h
  · exact Scales_yes ⟨k, p, a, b, j⟩ l w h
end Go.Proofs.Ytgekhkigeanajaa.P
