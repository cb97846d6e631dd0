/- The timing that comes nearest, by the program. Conditions: the ranges that each lemma names. -/
import Derived.Test.YtgekhkigeanajaaTimingCmp
namespace Go.Proofs.Ytgekhkigeanajaa.P
open Go.RowKit Go.Proofs.YtgekhkigeanajaaW.PrintWords Go.Proofs.YtgekhkigeanajaaW.PrintLast Go.Proofs.YtgekhkigeanajaaW.PrintMore
set_option linter.unusedVariables false
set_option linter.unusedSimpArgs false
structure C3 (w W : World) (s : Int) (a b : Tm) : Prop where
  k0 : W.heap[w.heap.size]? = some (.cells #[.int .i64 s] 51 (0, 0))
  k1 : W.heap[w.heap.size + 1]? = some (.cells #[.int .i64 a.k, .int .i64 a.p, .int .i64 a.a, .int .i64 a.b, .int .i64 a.j] 39 (0, 0))
  k2 : W.heap[w.heap.size + 2]? = some (.cells #[.int .i64 b.k, .int .i64 b.p, .int .i64 b.a, .int .i64 b.b, .int .i64 b.j] 39 (0, 0))
  B : Below w.heap.size w W
theorem C3.below {w W W' : World} {s : Int} {a b : Tm} (h : C3 w W s a b) (hb : Below W.heap.size W W') : C3 w W' s a b := ⟨blk_below h.k0 hb, blk_below h.k1 hb, blk_below h.k2 hb, below_step h.B hb⟩
theorem C3.drew {w W : World} {s : Int} {a b : Tm} (h : C3 w W s a b) : C3 w W.drew s a b := h.below (below_drew1 (Below.refl _ _))
theorem C3.made (w : World) (s : Int) (a b : Tm) : C3 w (((w.alloc (.cells #[.int .i64 s] 51)).alloc (.cells #[.int .i64 a.k, .int .i64 a.p, .int .i64 a.a, .int .i64 a.b, .int .i64 a.j] 39)).alloc (.cells #[.int .i64 b.k, .int .i64 b.p, .int .i64 b.a, .int .i64 b.b, .int .i64 b.j] 39)) s a b := by
  have h0 := blk_new w (.cells #[.int .i64 s] 51)
  have h1 := blk_new (w.alloc (.cells #[.int .i64 s] 51)) (.cells #[.int .i64 a.k, .int .i64 a.p, .int .i64 a.a, .int .i64 a.b, .int .i64 a.j] 39)
  have h2 := blk_new ((w.alloc (.cells #[.int .i64 s] 51)).alloc (.cells #[.int .i64 a.k, .int .i64 a.p, .int .i64 a.a, .int .i64 a.b, .int .i64 a.j] 39)) (.cells #[.int .i64 b.k, .int .i64 b.p, .int .i64 b.a, .int .i64 b.b, .int .i64 b.j] 39)
  rw [World.size_alloc] at h1
  rw [World.size_alloc, World.size_alloc] at h2
  exact ⟨blk_below h0 (below_alloc (below_alloc (Below.refl _ _) _) _), blk_below h1 (below_alloc (Below.refl _ _) _), h2, below_alloc (below_alloc (below_alloc (Below.refl _ _) _) _) _⟩
def cmpV (s : Int) (a b : Tm) : Int := orI (cmpI (offV s a) (offV s b)) (cmpI b.drift a.drift)
set_option maxHeartbeats 8000000 in
set_option maxRecDepth 100000 in
theorem compare_calls (s : Int) (a b : Tm) (w : World) (ha : a.rightB = true) (hb : b.rightB = true) (s0 : 0 ≤ s) (s1 : s ≤ 1000) :
    Calls Try.prog 35 #[.agg #[.int .i64 s], .agg #[.int .i64 a.k, .int .i64 a.p, .int .i64 a.a, .int .i64 a.b, .int .i64 a.j], .agg #[.int .i64 b.k, .int .i64 b.p, .int .i64 b.a, .int .i64 b.b, .int .i64 b.j]] w fun e w' => e = .returned (.int .i64 (cmpV s a b)) ∧ Below w.heap.size w w' := by
  have hu39 := Try.underlying39
  have hu51 := Try.underlying51
  have HA := Aside0.mk (And.intro ha (And.intro hb (And.intro s0 s1)))
  have HD := Aside0.mk (And.intro (drift_eq ha) (drift_eq hb))
  have C0 := Aside0.mk (C3.made w s a b)
  obtain ⟨c0, c1, c2, c3, c4⟩ := tm_cells C0.out.k1
  obtain ⟨d0, d1, d2, d3, d4⟩ := tm_cells C0.out.k2
  clear ha hb s0 s1
  go_enter Try.func35, Try.ntmps35
  go_wp2_with fail
  refine wp_region_held_drew (S := (fun w' : World => (w'.cell? ⟨w.heap.size + 1, 0, none⟩ = some (.int .i64 a.k) ∧ w'.cell? ⟨w.heap.size + 1, 1, none⟩ = some (.int .i64 a.p) ∧ w'.cell? ⟨w.heap.size + 1, 2, none⟩ = some (.int .i64 a.a) ∧ w'.cell? ⟨w.heap.size + 1, 3, none⟩ = some (.int .i64 a.b) ∧ w'.cell? ⟨w.heap.size + 1, 4, none⟩ = some (.int .i64 a.j)) ∧ w'.cell? ⟨w.heap.size + 2, 0, none⟩ = some (.int .i64 b.k) ∧ w'.cell? ⟨w.heap.size + 2, 1, none⟩ = some (.int .i64 b.p) ∧ w'.cell? ⟨w.heap.size + 2, 2, none⟩ = some (.int .i64 b.a) ∧ w'.cell? ⟨w.heap.size + 2, 3, none⟩ = some (.int .i64 b.b) ∧ w'.cell? ⟨w.heap.size + 2, 4, none⟩ = some (.int .i64 b.j))) (by kernel_rfl) (And.intro (tm_cells C0.out.k1) (tm_cells C0.out.k2)) (fun hS0 => ?_)
  refine wpAnyH_take (i := 0) (oi := ⟨some 9, _, _, _, _, _⟩) (v := (.func (.func 45) #[] #[.pointer (some ⟨w.heap.size, 0, none⟩)])) rfl (by kernel_rfl) (by kernel_rfl) (by kernel_rfl) (fun _ _ _ h => h) (Or.inl ⟨by rfl, fun w hSw => by (try dsimp only at hSw); go_simp⟩) (by assumption) ?_
  try simp only [Act.put, List.setIfInBounds_toArray, List.set_cons_zero, List.set_cons_succ]
  refine wpAnyH_take (i := 1) (oi := ⟨some 10, _, _, _, _, _⟩) (v := (.agg #[.int .i64 a.k, .int .i64 a.p, .int .i64 a.a, .int .i64 a.b, .int .i64 a.j])) rfl (by kernel_rfl) (by kernel_rfl) (by kernel_rfl) (fun _ _ _ h => h) (Or.inl ⟨by rfl, fun w hSw => by (try dsimp only at hSw); go_simp⟩) (by assumption) ?_
  try simp only [Act.put, List.setIfInBounds_toArray, List.set_cons_zero, List.set_cons_succ]
  refine wpAnyH_take (i := 3) (oi := ⟨some 12, _, _, _, _, _⟩) (v := (.func (.func 45) #[] #[.pointer (some ⟨w.heap.size, 0, none⟩)])) rfl (by kernel_rfl) (by kernel_rfl) (by kernel_rfl) (fun _ _ _ h => h) (Or.inl ⟨by rfl, fun w hSw => by (try dsimp only at hSw); go_simp⟩) (by assumption) ?_
  try simp only [Act.put, List.setIfInBounds_toArray, List.set_cons_zero, List.set_cons_succ]
  refine wpAnyH_take (i := 4) (oi := ⟨some 13, _, _, _, _, _⟩) (v := (.agg #[.int .i64 b.k, .int .i64 b.p, .int .i64 b.a, .int .i64 b.b, .int .i64 b.j])) rfl (by kernel_rfl) (by kernel_rfl) (by kernel_rfl) (fun _ _ _ h => h) (Or.inl ⟨by rfl, fun w hSw => by (try dsimp only at hSw); go_simp⟩) (by assumption) ?_
  try simp only [Act.put, List.setIfInBounds_toArray, List.set_cons_zero, List.set_cons_succ]
  refine wpAnyH_take (i := 7) (oi := ⟨some 16, _, _, _, _, _⟩) (v := (.agg #[.int .i64 b.k, .int .i64 b.p, .int .i64 b.a, .int .i64 b.b, .int .i64 b.j])) rfl (by kernel_rfl) (by kernel_rfl) (by kernel_rfl) (fun _ _ _ h => h) (Or.inl ⟨by rfl, fun w hSw => by (try dsimp only at hSw); go_simp⟩) (by assumption) ?_
  try simp only [Act.put, List.setIfInBounds_toArray, List.set_cons_zero, List.set_cons_succ]
  refine wpAnyH_take (i := 9) (oi := ⟨some 18, _, _, _, _, _⟩) (v := (.agg #[.int .i64 a.k, .int .i64 a.p, .int .i64 a.a, .int .i64 a.b, .int .i64 a.j])) rfl (by kernel_rfl) (by kernel_rfl) (by kernel_rfl) (fun _ _ _ h => h) (Or.inl ⟨by rfl, fun w hSw => by (try dsimp only at hSw); go_simp⟩) (by assumption) ?_
  try simp only [Act.put, List.setIfInBounds_toArray, List.set_cons_zero, List.set_cons_succ]
  refine wpAnyH_ready (rs := [2]) (by kernel_rfl) (by simp) ?_
  refine AllReadyH.cons (o := ⟨some 11, _, _, _, _, _⟩) rfl (fun K hK => ?_) AllReadyH.nil
  go_simp
  go_at_call 45
  (with_reducible refine (off_calls a s w.heap.size _ HA.out.1 HA.out.2.2.1 HA.out.2.2.2 C0.out.drew.k0).mono ?_); rintro e w1 ⟨rfl, hb⟩; have C1 := Aside0.mk (C0.out.drew.below hb); clear hb
  dsimp only
  refine hK.out _ _ (And.intro (tm_cells C1.out.k1) (tm_cells C1.out.k2)) (fun hS2 => ?_)
  clear hK K
  try simp only [Act.put, List.setIfInBounds_toArray, List.set_cons_zero, List.set_cons_succ]
  refine wpAnyH_ready (rs := [5]) (by kernel_rfl) (by simp) ?_
  refine AllReadyH.cons (o := ⟨some 14, _, _, _, _, _⟩) rfl (fun K hK => ?_) AllReadyH.nil
  go_simp
  go_at_call 45
  (with_reducible refine (off_calls b s w.heap.size _ HA.out.2.1 HA.out.2.2.1 HA.out.2.2.2 C1.out.k0).mono ?_); rintro e w2 ⟨rfl, hb⟩; have C2 := Aside0.mk (C1.out.below hb); clear hb
  dsimp only
  refine hK.out _ _ (And.intro (tm_cells C2.out.k1) (tm_cells C2.out.k2)) (fun hS5 => ?_)
  clear hK K
  try simp only [Act.put, List.setIfInBounds_toArray, List.set_cons_zero, List.set_cons_succ]
  refine wpAnyH_ready (rs := [6]) (by kernel_rfl) (by simp) ?_
  refine AllReadyH.cons (o := ⟨some 15, _, _, _, _, _⟩) rfl (fun K hK => ?_) AllReadyH.nil
  go_simp
  go_at_call 47
  (with_reducible refine (cmp1 _ _ _).mono ?_); rintro e w3 ⟨rfl, hd⟩; have C3 := Aside0.mk (C2.out.below (Drawn0.below hd)); clear hd
  dsimp only
  refine hK.out _ _ (And.intro (tm_cells C3.out.k1) (tm_cells C3.out.k2)) (fun hS6 => ?_)
  clear hK K
  try simp only [Act.put, List.setIfInBounds_toArray, List.set_cons_zero, List.set_cons_succ]
  refine wpAnyH_ready (rs := [8]) (by kernel_rfl) (by simp) ?_
  refine AllReadyH.cons (o := ⟨some 17, _, _, _, _, _⟩) rfl (fun K hK => ?_) AllReadyH.nil
  go_simp
  go_at_call 31
  (with_reducible refine (timing_timed_drift.calls _ _ _ _ _ _ _ HD.out.2).mono ?_); rintro e w4 ⟨rfl, hb⟩; have C4 := Aside0.mk (C3.out.below hb); clear hb
  dsimp only
  refine hK.out _ _ (And.intro (tm_cells C4.out.k1) (tm_cells C4.out.k2)) (fun hS8 => ?_)
  clear hK K
  try simp only [Act.put, List.setIfInBounds_toArray, List.set_cons_zero, List.set_cons_succ]
  refine wpAnyH_ready (rs := [10]) (by kernel_rfl) (by simp) ?_
  refine AllReadyH.cons (o := ⟨some 19, _, _, _, _, _⟩) rfl (fun K hK => ?_) AllReadyH.nil
  go_simp
  go_at_call 31
  (with_reducible refine (timing_timed_drift.calls _ _ _ _ _ _ _ HD.out.1).mono ?_); rintro e w5 ⟨rfl, hb⟩; have C5 := Aside0.mk (C4.out.below hb); clear hb
  dsimp only
  refine hK.out _ _ (And.intro (tm_cells C5.out.k1) (tm_cells C5.out.k2)) (fun hS10 => ?_)
  clear hK K
  try simp only [Act.put, List.setIfInBounds_toArray, List.set_cons_zero, List.set_cons_succ]
  refine wpAnyH_ready (rs := [11]) (by kernel_rfl) (by simp) ?_
  refine AllReadyH.cons (o := ⟨some 20, _, _, _, _, _⟩) rfl (fun K hK => ?_) AllReadyH.nil
  go_simp
  go_at_call 48
  (with_reducible refine (cmp2 _ _ _).mono ?_); rintro e w6 ⟨rfl, hd⟩; have C6 := Aside0.mk (C5.out.below (Drawn0.below hd)); clear hd
  dsimp only
  refine hK.out _ _ (And.intro (tm_cells C6.out.k1) (tm_cells C6.out.k2)) (fun hS11 => ?_)
  clear hK K
  try simp only [Act.put, List.setIfInBounds_toArray, List.set_cons_zero, List.set_cons_succ]
  have C7 := Aside0.mk (C6.out.below (below_alloc (Below.refl _ _) (.cells #[.int .i64 (cmpI (offV s a) (offV s b)), .int .i64 (cmpI b.drift a.drift)] 3)))
  refine wpAnyH_ready (rs := [12]) (by kernel_rfl) (by simp) ?_
  refine AllReadyH.cons (o := ⟨some 21, _, _, _, _, _⟩) rfl (fun K hK => ?_) AllReadyH.nil
  go_simp
  refine hK.out _ _ (And.intro (tm_cells C7.out.k1) (tm_cells C7.out.k2)) (fun hS12 => ?_)
  clear hK K
  try simp only [Act.put, List.setIfInBounds_toArray, List.set_cons_zero, List.set_cons_succ]
  refine wpAnyH_ready (rs := [13]) (by kernel_rfl) (by simp) ?_
  refine AllReadyH.cons (o := ⟨some 22, _, _, _, _, _⟩) rfl (fun K hK => ?_) AllReadyH.nil
  go_simp
  go_at_call 46
  (with_reducible refine (or_two _ _ _).mono ?_); rintro e w8 ⟨rfl, hd⟩; have C8 := Aside0.mk (C7.out.below (Drawn0.below hd)); clear hd
  dsimp only
  refine hK.out _ _ (And.intro (tm_cells C8.out.k1) (tm_cells C8.out.k2)) (fun hS13 => ?_)
  clear hK K
  try simp only [Act.put, List.setIfInBounds_toArray, List.set_cons_zero, List.set_cons_succ]
  refine wpAnyH_take (i := 14) (oi := ⟨some 6, _, _, _, _, _⟩) (v := (.int .i64 (orI (cmpI (offV s a) (offV s b)) (cmpI b.drift a.drift)))) rfl (by kernel_rfl) (by kernel_rfl) (by kernel_rfl) (fun _ _ _ h => h) (Or.inl ⟨by rfl, fun w hSw => by (try dsimp only at hSw); go_simp⟩) (by assumption) ?_
  try simp only [Act.put, List.setIfInBounds_toArray, List.set_cons_zero, List.set_cons_succ]
  refine wpAnyH_done (by kernel_rfl) ?_ _
  go_wp2
  go_ret
  exact ⟨rfl, C8.out.B⟩
theorem add_off5 (a : Addr) (m j : Nat) : (⟨(a.add m).block, (a.add m).off + (j + 1), none⟩ : Addr) = a.add (m + (j + 1)) := by
  unfold Addr.add
  by_cases hm : m = 0 <;> simp [hm, Nat.add_assoc]
def T5 (w : World) (ad : Addr) (t : Tm) : Prop := w.cell? ad = some (.int .i64 t.k) ∧ w.cell? ⟨ad.block, ad.off + 1, none⟩ = some (.int .i64 t.p) ∧ w.cell? ⟨ad.block, ad.off + 2, none⟩ = some (.int .i64 t.a) ∧ w.cell? ⟨ad.block, ad.off + 3, none⟩ = some (.int .i64 t.b) ∧ w.cell? ⟨ad.block, ad.off + 4, none⟩ = some (.int .i64 t.j)
theorem T5.below {w w1 : World} {ad : Addr} {t : Tm} (h : T5 w ad t) (hb : Below w.heap.size w w1) : T5 w1 ad t := ⟨pw_cell_below hb h.1, pw_cell_below hb h.2.1, pw_cell_below hb h.2.2.1, pw_cell_below hb h.2.2.2.1, pw_cell_below hb h.2.2.2.2⟩
def Rows5 (w : World) (ad : Addr) (xs : List Tm) : Prop := ∀ (i : Nat) (t : Tm), xs[i]? = some t → T5 w (ad.add (i * 5)) t
theorem rows5 {w : World} {base n : Nat} {v : Value} {xs : List Tm} (h : w.ownsRow base 39 5 v n (rowCells xs)) (hn : xs.length = n) (h0 : 0 < n) : ∃ g c, v = .slice (some ⟨g, 0, none⟩) n c ∧ n ≤ c ∧ Rows5 w ⟨g, 0, none⟩ xs := by
  rcases h.2 with ⟨rfl, e⟩ | ⟨g, cap, cur, rfl, hb, hh, h1, h2, h3, h4⟩
  · omega
  · have hc := h.cells (g := g) rfl
    have key : ∀ (xs : List Tm) (i : Nat) (t : Tm) (j : Nat) (u : Value), xs[i]? = some t → (tmCells t)[j]? = some u → (rowCells xs)[i * 5 + j]? = some u := by
      intro xs
      induction xs with
      | nil => intro i t j u e; cases e
      | cons x xs ih =>
        intro i t j u e e2
        have e3 : rowCells (x :: xs) = tmCells x ++ rowCells xs := by simp [rowCells]
        rw [e3]
        cases i with
        | zero =>
          cases e
          have hj : j < (tmCells x).length := (List.getElem?_eq_some_iff.1 e2).1
          rw [Nat.zero_mul, Nat.zero_add, List.getElem?_append_left hj]
          exact e2
        | succ i =>
          have hl : (tmCells x).length = 5 := rfl
          rw [List.getElem?_append_right (by rw [hl]; omega), hl, show (i + 1) * 5 + j - 5 = i * 5 + j by omega]
          exact ih i t j u e e2
    refine ⟨g, cap, rfl, h1, fun i t e => ⟨?_, ?_, ?_, ?_, ?_⟩⟩
    · exact hc (i * 5 + 0) _ (key xs i t 0 _ e rfl)
    · rw [add_off5 _ (i * 5) 0]
      exact hc (i * 5 + 1) _ (key xs i t 1 _ e rfl)
    · rw [add_off5 _ (i * 5) 1]
      exact hc (i * 5 + 2) _ (key xs i t 2 _ e rfl)
    · rw [add_off5 _ (i * 5) 2]
      exact hc (i * 5 + 3) _ (key xs i t 3 _ e rfl)
    · rw [add_off5 _ (i * 5) 3]
      exact hc (i * 5 + 4) _ (key xs i t 4 _ e rfl)
def stepM (s : Int) (m x : Tm) : Tm := if cmpV s x m < 0 then x else m
def minV (s : Int) (m : Tm) (xs : List Tm) : Tm := xs.foldl (stepM s) m
theorem minV_right {s : Int} : ∀ (xs : List Tm) (m : Tm), m.rightB = true → (∀ x ∈ xs, x.rightB = true) → (minV s m xs).rightB = true
  | [], m, h, _ => h
  | x :: xs, m, h, hx => by
    have : minV s m (x :: xs) = minV s (stepM s m x) xs := rfl
    rw [this]
    refine minV_right xs _ ?_ fun y hy => hx y (List.mem_cons_of_mem _ hy)
    unfold stepM
    split
    · exact hx x List.mem_cons_self
    · exact h
theorem minV_take {s : Int} {m : Tm} {xs : List Tm} {k : Nat} {x : Tm} (h : xs[k]? = some x) : minV s m (xs.take (k + 1)) = stepM s (minV s m (xs.take k)) x := by
  unfold minV
  rw [List.take_add_one, h, List.foldl_append]
  rfl
structure MF (w W : World) (m : Tm) : Prop where
  k0 : W.heap[w.heap.size]? = some (.cells #[.int .i64 0, .int .i64 0, .int .i64 0, .int .i64 0, .int .i64 0] 39 (0, 0))
  k1 : W.heap[w.heap.size + 1]? = some (.cells #[.int .i64 m.k, .int .i64 m.p, .int .i64 m.a, .int .i64 m.b, .int .i64 m.j] 39 (0, 0))
  B : Below w.heap.size w W
theorem MF.below {w W W' : World} {m : Tm} (h : MF w W m) (hb : Below W.heap.size W W') : MF w W' m := ⟨blk_below h.k0 hb, blk_below h.k1 hb, below_step h.B hb⟩
theorem MF.drew {w W : World} {m : Tm} (h : MF w W m) : MF w W.drew m := h.below (below_drew1 (Below.refl _ _))
theorem MF.made (w : World) (m : Tm) : MF w ((w.alloc (.cells #[.int .i64 0, .int .i64 0, .int .i64 0, .int .i64 0, .int .i64 0] 39)).alloc (.cells #[.int .i64 m.k, .int .i64 m.p, .int .i64 m.a, .int .i64 m.b, .int .i64 m.j] 39)) m := by
  have h1 := blk_new (w.alloc (.cells #[.int .i64 0, .int .i64 0, .int .i64 0, .int .i64 0, .int .i64 0] 39)) (.cells #[.int .i64 m.k, .int .i64 m.p, .int .i64 m.a, .int .i64 m.b, .int .i64 m.j] 39)
  rw [World.size_alloc] at h1
  exact ⟨blk_below (blk_new _ _) (below_alloc (Below.refl _ _) _), h1, below_alloc (below_alloc (Below.refl _ _) _) _⟩
def set5 (W : World) (g : Nat) (t : Tm) : World := ((((W.setCell ⟨g, 0, none⟩ (.int .i64 t.k)).setCell ⟨g, 1, none⟩ (.int .i64 t.p)).setCell ⟨g, 2, none⟩ (.int .i64 t.a)).setCell ⟨g, 3, none⟩ (.int .i64 t.b)).setCell ⟨g, 4, none⟩ (.int .i64 t.j)
theorem set5_blk {W : World} {g : Nat} {t u : Tm} {ty : TypeId} (h : W.heap[g]? = some (.cells #[.int .i64 u.k, .int .i64 u.p, .int .i64 u.a, .int .i64 u.b, .int .i64 u.j] ty (0, 0))) : (set5 W g t).heap[g]? = some (.cells #[.int .i64 t.k, .int .i64 t.p, .int .i64 t.a, .int .i64 t.b, .int .i64 t.j] ty (0, 0)) := by
  have := blk_set (blk_set (blk_set (blk_set (blk_set h 0 (.int .i64 t.k)) 1 (.int .i64 t.p)) 2 (.int .i64 t.a)) 3 (.int .i64 t.b)) 4 (.int .i64 t.j)
  simpa [set5] using this
theorem set5_far {W : World} {g k : Nat} {t : Tm} (hk : k ≠ g) : (set5 W g t).heap[k]? = W.heap[k]? := by
  unfold set5
  rw [Below.heap_setCell _ _ _ _ hk, Below.heap_setCell _ _ _ _ hk, Below.heap_setCell _ _ _ _ hk, Below.heap_setCell _ _ _ _ hk, Below.heap_setCell _ _ _ _ hk]
theorem set5_below {B g : Nat} {w W : World} {t : Tm} (h : Below B w W) (hg : B ≤ g) : Below B w (set5 W g t) :=
  ((((h.setCell (p := ⟨g, 0, none⟩) hg _).setCell (p := ⟨g, 1, none⟩) hg _).setCell (p := ⟨g, 2, none⟩) hg _).setCell (p := ⟨g, 3, none⟩) hg _).setCell (p := ⟨g, 4, none⟩) hg _
theorem tm_frz {w : World} {g : Nat} {cs : Array Value} {ty : TypeId} (h : w.heap[g]? = some (.cells cs ty (0, 0))) : w.frozen? ⟨g, 0, none⟩ = false ∧ w.frozen? ⟨g, 1, none⟩ = false ∧ w.frozen? ⟨g, 2, none⟩ = false ∧ w.frozen? ⟨g, 3, none⟩ = false ∧ w.frozen? ⟨g, 4, none⟩ = false :=
  ⟨blk_frozen h 0, blk_frozen h 1, blk_frozen h 2, blk_frozen h 3, blk_frozen h 4⟩
set_option maxHeartbeats 8000000 in
set_option maxRecDepth 100000 in
theorem Min_calls (s : Int) (ad : Addr) (c : Nat) (x : Tm) (xs : List Tm) (w : World) (hr : Rows5 w ad (x :: xs)) (hc : xs.length + 1 ≤ c) (hl : xs.length ≤ 5000) (hx : x.rightB = true) (hxs : ∀ y ∈ xs, y.rightB = true) (s0 : 0 ≤ s) (s1 : s ≤ 1000) :
    Calls Try.prog 36 #[.slice (some ad) (xs.length + 1) c, .func (.func 35) #[.agg #[.int .i64 s]] #[]] w fun e w' => e = .returned (.agg #[.int .i64 (minV s x xs).k, .int .i64 (minV s x xs).p, .int .i64 (minV s x xs).a, .int .i64 (minV s x xs).b, .int .i64 (minV s x xs).j]) ∧ Below w.heap.size w w' := by
  have hu39 := Try.underlying39
  have hu23 := Try.underlying23
  have HR := Aside0.mk hr
  have HC := Aside0.mk hc
  have HL := Aside0.mk hl
  have HX := Aside0.mk (And.intro hx (And.intro hxs (And.intro s0 s1)))
  have r0 := hr 0 x rfl
  rw [Nat.zero_mul, show ad.add 0 = ad from by simp [Addr.add]] at r0
  have M0 := Aside0.mk (MF.made w x)
  have u1 : decide (((xs.length : Int) + 1) < 1) = false := decide_eq_false (by omega)
  have u2 : ((0 : Int) < ((xs.length : Int) + 1)) = True := eq_true (by omega)
  obtain ⟨a0, a1, a2, a3, a4⟩ := r0.below (below_alloc (Below.refl w.heap.size w) (.cells #[.int .i64 0, .int .i64 0, .int .i64 0, .int .i64 0, .int .i64 0] 39))
  clear hr hc hl hx hxs s0 s1 r0
  go_enter Try.func36, Try.ntmps36
  go_wp2_with fail
  clear a0 a1 a2 a3 a4
  go_loopg [6] xs.length (fun kq v6 w' => ∃ k : Nat, v6 = .int .i64 (k : Int) ∧ Aside0 (1 ≤ k ∧ k + kq = xs.length + 1) ∧ Aside0 (MF w w' (minV s x (xs.take (k - 1)))))
  case atStart => exact ⟨1, rfl, ⟨by omega⟩, M0⟩
  case round =>
    obtain ⟨k, rfl, HK, M1⟩ := hrel
    clear M0
    cases gk with
    | zero =>
      have hk : k = xs.length + 1 := by have := HK.out; omega
      have v1 : decide ((k : Int) < ((xs.length : Int) + 1)) = false := decide_eq_false (by omega)
      have v2 : decide (k < xs.length + 1) = false := decide_eq_false (by omega)
      have M2 : Aside0 (MF w wr (minV s x xs)) := ⟨by
        have := M1.out
        rw [hk, Nat.add_sub_cancel, List.take_length] at this
        exact this⟩
      have MB := M2.out.B
      obtain ⟨mm, hmm⟩ : ∃ mm, minV s x xs = mm := ⟨_, rfl⟩
      rw [hmm] at M2
      have HE := Aside0.mk hmm
      clear hmm
      obtain ⟨b0, b1, b2, b3, b4⟩ := tm_cells M2.out.k1
      obtain ⟨d0, d1, d2, d3, d4⟩ := tm_cells (t := ⟨0, 0, 0, 0, 0⟩) M2.out.k0
      obtain ⟨f0, f1, f2, f3, f4⟩ := tm_frz M2.out.k0
      dsimp only at d0 d1 d2 d3 d4
      clear hk u1 u2
      go_wp2_with fail
      (try simp only [Exit.jump])
      refine bodyPost_ret (results_single rfl (.cell w.heap.size 39 _ (0, 0) _ rfl (set5_blk (u := ⟨0, 0, 0, 0, 0⟩) M2.out.k0) Try.underlying39 rfl (by kernel_rfl) .nil)) rfl ?_
      rw [HE.out]
      exact ⟨rfl, set5_below MB (Nat.le_refl _)⟩
    | succ k1 =>
      have hk : k < xs.length + 1 := by have := HK.out; omega
      have v1 : decide ((k : Int) < ((xs.length : Int) + 1)) = true := decide_eq_true (by omega)
      have v2 : decide (k < xs.length + 1) = true := decide_eq_true hk
      have v3 : ((k : Int) < ((xs.length : Int) + 1)) = True := eq_true (by omega)
      have v4 : (k < xs.length + 1) = True := eq_true hk
      have v5 : (0 ≤ (k : Int)) = True := eq_true (by omega)
      have hi1 : wrap64 ((k : Int) + 1) = ((k + 1 : Nat) : Int) := by rw [wr_small _ (by omega) (by have := HL.out; omega)]; rfl
      have hk2 : k - 1 < xs.length := by have := HK.out; omega
      obtain ⟨y, hy⟩ : ∃ y, xs[k - 1]? = some y := ⟨_, List.getElem?_eq_getElem hk2⟩
      have hy2 : (x :: xs)[k]? = some y := by
        rw [show k = (k - 1) + 1 by have := HK.out; omega]
        exact hy
      have YR : Aside0 (y.rightB = true) := ⟨HX.out.2.1 y (List.mem_of_getElem? hy)⟩
      have MR : Aside0 ((minV s x (xs.take (k - 1))).rightB = true) := ⟨minV_right _ _ HX.out.1 (fun z hz => HX.out.2.1 z (List.mem_of_mem_take hz))⟩
      have MT : Aside0 (minV s x (xs.take k) = stepM s (minV s x (xs.take (k - 1))) y) := ⟨by
        have := minV_take (s := s) (m := x) hy
        rw [show k - 1 + 1 = k by have := HK.out; omega] at this
        exact this⟩
      obtain ⟨a0, a1, a2, a3, a4⟩ := (HR.out k y hy2).below M1.out.B
      generalize minV s x (xs.take (k - 1)) = mm at M1 MR MT
      obtain ⟨b0, b1, b2, b3, b4⟩ := tm_cells M1.out.k1
      have YC := Aside0.mk (HR.out k y hy2)
      clear hk hk2 hy hy2 u1 u2
      by_cases hlt : cmpV s y mm < 0
      · have x1 : decide (cmpV s y mm < 0) = true := decide_eq_true hlt
        have x2 : (cmpV s y mm < 0) = True := eq_true hlt
        have E : Aside0 (stepM s mm y = y) := ⟨if_pos hlt⟩
        clear hlt
        go_wp2_with fail
        go_region_held3 (fun w' => (w'.cell? (ad.add (k * 5)) = some (.int .i64 y.k) ∧ w'.cell? ⟨(ad.add (k * 5)).block, (ad.add (k * 5)).off + 1, none⟩ = some (.int .i64 y.p) ∧ w'.cell? ⟨(ad.add (k * 5)).block, (ad.add (k * 5)).off + 2, none⟩ = some (.int .i64 y.a) ∧ w'.cell? ⟨(ad.add (k * 5)).block, (ad.add (k * 5)).off + 3, none⟩ = some (.int .i64 y.b) ∧ w'.cell? ⟨(ad.add (k * 5)).block, (ad.add (k * 5)).off + 4, none⟩ = some (.int .i64 y.j)) ∧
            w'.cell? ⟨w.heap.size + 1, 0, none⟩ = some (.int .i64 mm.k) ∧ w'.cell? ⟨w.heap.size + 1, 1, none⟩ = some (.int .i64 mm.p) ∧ w'.cell? ⟨w.heap.size + 1, 2, none⟩ = some (.int .i64 mm.a) ∧ w'.cell? ⟨w.heap.size + 1, 3, none⟩ = some (.int .i64 mm.b) ∧ w'.cell? ⟨w.heap.size + 1, 4, none⟩ = some (.int .i64 mm.j)) (go_keep)
          (first
            | (go_at_call 35; (with_reducible refine (compare_calls s y mm _ YR.out MR.out HX.out.2.2.1 HX.out.2.2.2).mono ?_); rintro e w5 ⟨rfl, hb⟩; have M5 : Aside0 (MF w w5 mm) := ⟨M1.out.drew.below hb⟩; clear hb; clear a0 a1 a2 a3 a4 b0 b1 b2 b3 b4; obtain ⟨a0, a1, a2, a3, a4⟩ := YC.out.below M5.out.B; obtain ⟨b0, b1, b2, b3, b4⟩ := tm_cells M5.out.k1))
        obtain ⟨f0, f1, f2, f3, f4⟩ := tm_frz M5.out.k1
        go_wp2_with fail
        go_roundg k1
        case measure => omega
        case rel =>
          refine ⟨k + 1, by first | rw [hi1] | rfl, ⟨by have := HK.out; omega⟩, ⟨?_⟩⟩
          rw [Nat.add_sub_cancel, MT.out, E.out]
          exact ⟨(set5_far (g := w.heap.size + 1) (t := y) (by omega)).trans M5.out.k0, set5_blk M5.out.k1, set5_below M5.out.B (by omega)⟩
      · have x1 : decide (cmpV s y mm < 0) = false := decide_eq_false hlt
        have x2 : (cmpV s y mm < 0) = False := eq_false hlt
        have E : Aside0 (stepM s mm y = mm) := ⟨if_neg hlt⟩
        clear hlt
        go_wp2_with fail
        go_region_held3 (fun w' => (w'.cell? (ad.add (k * 5)) = some (.int .i64 y.k) ∧ w'.cell? ⟨(ad.add (k * 5)).block, (ad.add (k * 5)).off + 1, none⟩ = some (.int .i64 y.p) ∧ w'.cell? ⟨(ad.add (k * 5)).block, (ad.add (k * 5)).off + 2, none⟩ = some (.int .i64 y.a) ∧ w'.cell? ⟨(ad.add (k * 5)).block, (ad.add (k * 5)).off + 3, none⟩ = some (.int .i64 y.b) ∧ w'.cell? ⟨(ad.add (k * 5)).block, (ad.add (k * 5)).off + 4, none⟩ = some (.int .i64 y.j)) ∧
            w'.cell? ⟨w.heap.size + 1, 0, none⟩ = some (.int .i64 mm.k) ∧ w'.cell? ⟨w.heap.size + 1, 1, none⟩ = some (.int .i64 mm.p) ∧ w'.cell? ⟨w.heap.size + 1, 2, none⟩ = some (.int .i64 mm.a) ∧ w'.cell? ⟨w.heap.size + 1, 3, none⟩ = some (.int .i64 mm.b) ∧ w'.cell? ⟨w.heap.size + 1, 4, none⟩ = some (.int .i64 mm.j)) (go_keep)
          (first
            | (go_at_call 35; (with_reducible refine (compare_calls s y mm _ YR.out MR.out HX.out.2.2.1 HX.out.2.2.2).mono ?_); rintro e w5 ⟨rfl, hb⟩; have M5 : Aside0 (MF w w5 mm) := ⟨M1.out.drew.below hb⟩; clear hb; clear a0 a1 a2 a3 a4 b0 b1 b2 b3 b4; obtain ⟨a0, a1, a2, a3, a4⟩ := YC.out.below M5.out.B; obtain ⟨b0, b1, b2, b3, b4⟩ := tm_cells M5.out.k1))
        obtain ⟨f0, f1, f2, f3, f4⟩ := tm_frz M5.out.k1
        go_wp2_with fail
        go_roundg k1
        case measure => omega
        case rel =>
          refine ⟨k + 1, by first | rw [hi1] | rfl, ⟨by have := HK.out; omega⟩, ⟨?_⟩⟩
          rw [Nat.add_sub_cancel, MT.out, E.out]
          exact M5.out
end Go.Proofs.Ytgekhkigeanajaa.P
