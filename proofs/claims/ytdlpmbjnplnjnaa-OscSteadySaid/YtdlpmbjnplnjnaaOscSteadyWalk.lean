/- A steady oscillator has counted as much as so many bits may have: the walk through the law, for every oscillator and ticks. Conditions: the slice's cells can be read. -/
import Derived.Test.YtdlpmbjnplnjnaaOscRef
namespace Go.Proofs.Ytdlpmbjnplnjnaa.P
open Go.RowKit Go.Proofs.YtdlpmbjnplnjnaaW.PrintWords Go.Proofs.YtdlpmbjnplnjnaaW.PrintLast Go.Proofs.YtdlpmbjnplnjnaaW.PrintMore
set_option linter.unusedVariables false
set_option linter.unusedSimpArgs false
def NumsS (w : World) (A : Option Addr) (len : Nat) (f : Nat → Int) : Prop := ∀ i, i < len → ∃ ad, A = some ad ∧ w.cell? (ad.add i) = some (.int .i64 (f i))
theorem NumsS.at_ {w W : World} {ad : Addr} {len : Nat} {f : Nat → Int} (h : NumsS w (some ad) len f) (hb : Below w.heap.size w W) (i : Nat) (hi : i < len) : W.cell? (ad.add i) = some (.int .i64 (f i)) := by
  obtain ⟨ad', e, hc⟩ := h i hi
  cases e
  exact pw_cell_below hb hc
theorem nums_rowS {w : World} {A : Option Addr} {len cap : Nat} {z : List Int} (h : (A = none ∧ len = 0 ∧ cap = 0 ∧ z = []) ∨ ∃ x, A = some x ∧ len ≤ cap ∧ cap ≤ maxLen ∧ z.length = cap ∧ (∀ i, i < z.length → w.cell? (x.add i) = some (.int .i64 (z.getD i 0))) ∧ ∀ n ∈ z, (Lit.int .i64 n).wf = true) :
    NumsS w A len (fun i => z.getD i 0) := by
  rcases h with ⟨_, rfl, _, _⟩ | ⟨x, rfl, h1, h2, h3, h4, h5⟩
  · exact fun i hi => absurd hi (Nat.not_lt_zero _)
  · exact fun i hi => ⟨x, rfl, h4 i (by omega)⟩
theorem stepF_boundsS {n d c t r c' : Int} {wl wl' : Bool} (hs : stepF n d c wl t = (r, c', wl')) (h0 : 0 ≤ c) (h1 : c ≤ 1152921504606846976) : 0 ≤ c' ∧ c' ≤ 1152921504606846976 := by
  unfold stepF at hs
  split at hs
  · simp only [Prod.mk.injEq] at hs; omega
  · split at hs
    · simp only [Prod.mk.injEq] at hs; omega
    · simp only [Prod.mk.injEq] at hs; omega
/-- As long as it was steady, the count lies within what so many bits may have. -/
def Within (n d m c : Int) (wl : Bool) : Prop := wl = false → m * (n - d) ≤ c ∧ c ≤ m * (n + d)
theorem within_step {n d m c t r c' : Int} {wl wl' : Bool} (hs : stepF n d c wl t = (r, c', wl')) (h : Within n d m c wl) : (r = 0 → Within n d (m + 1) c' wl') ∧ (r ≠ 0 → Within n d m c' wl') := by
  unfold stepF at hs
  split at hs
  · simp only [Prod.mk.injEq] at hs
    obtain ⟨rfl, rfl, rfl⟩ := hs
    exact ⟨fun h => absurd h (by omega), fun _ => h⟩
  · split at hs
    · simp only [Prod.mk.injEq] at hs
      obtain ⟨rfl, rfl, rfl⟩ := hs
      exact ⟨fun h => absurd h (by omega), fun _ => h⟩
    · simp only [Prod.mk.injEq] at hs
      obtain ⟨rfl, rfl, rfl⟩ := hs
      refine ⟨fun _ hw => ?_, fun h => absurd rfl h⟩
      simp only [Bool.or_eq_false_iff, Bool.not_eq_false', decide_eq_true_eq] at hw
      have k := h hw.1
      have a := hw.2
      have b : n - d ≤ t ∧ t ≤ n + d := by unfold absd at a; split at a <;> omega
      rw [Int.add_mul, Int.add_mul, Int.one_mul, Int.one_mul]
      omega
theorem keepBS {w w1 w2 : World} {g : Nat} {o : Obj} (hK : Aside0 (w1.heap[g]? = some o)) (hB : Aside0 (Below w.heap.size w w1)) (hb : Below w1.heap.size w1 w2) : Aside0 (w2.heap[g]? = some o) ∧ Aside0 (Below w.heap.size w w2) :=
  ⟨⟨blk_below hK.out hb⟩, ⟨below_step hB.out hb⟩⟩
theorem cells2S {w : World} {g : Nat} {a b : Value} {t : TypeId} (h : w.heap[g]? = some (.cells #[a, b] t (0, 0))) :
    w.cell? ⟨g, 0, none⟩ = some a ∧ w.cell? ⟨g, 1, none⟩ = some b ∧ w.frozen? ⟨g, 0, none⟩ = false ∧ w.frozen? ⟨g, 1, none⟩ = false :=
  ⟨(blk_cell h 0).trans rfl, (blk_cell h 1).trans rfl, blk_frozen h 0, blk_frozen h 1⟩
theorem keep_blkS {w w' : World} {g k : Nat} {o : Obj} (h : KeepBut w w' g none) (hk : w.heap[k]? = some o) (hne : k ≠ g) : w'.heap[k]? = some o := by
  have hlt : k < w.heap.size := (Array.getElem?_eq_some_iff.1 hk).1
  rw [h.2 k hlt hne (by simp)]
  exact hk
/-- The oscillator, the law's own copy of what it may have, and all that is elder as it was. -/
structure Sd (w W : World) (g : Nat) (n d c : Int) (wl : Bool) : Prop where
  o : OscIs W g n d c wl
  k : W.heap[w.heap.size]? = some (.cells #[.int .i64 n, .int .i64 d] 23 (0, 0))
  b : Below w.heap.size w W
theorem Sd.drew {w W : World} {g : Nat} {n d c : Int} {wl : Bool} (h : Sd w W g n d c wl) : Sd w W.drew g n d c wl := ⟨blk_drew h.o, blk_drew h.k, below_drew1 h.b⟩
theorem Sd.below {w W W' : World} {g : Nat} {n d c : Int} {wl : Bool} (h : Sd w W g n d c wl) (hb : Below W.heap.size W W') : Sd w W' g n d c wl := ⟨blk_below h.o hb, blk_below h.k hb, below_step h.b hb⟩
theorem Sd.step {w W W' : World} {g : Nat} {n d c r c' : Int} {wl wl' : Bool} {e : Ending} (h : Sd w W g n d c wl) (hg : w.heap.size < g) (hp : StepPost g n d r c' wl' W e W') : Sd w W' g n d c' wl' :=
  ⟨hp.2.1, keep_blkS hp.2.2.1 h.k (by omega), h.b.trans (hp.2.2.2 _ (by omega) h.b.size)⟩
theorem Steady_t (g : Nat) (n d c : Int) (w : World) (h : OscIs w g n d c true) : Calls Try.prog 16 #[.pointer (some ⟨g, 0, none⟩)] w fun e w' => e = .returned (.bool false) ∧ w = w' := Steady_calls g n d c true w h
theorem Steady_f (g : Nat) (n d c : Int) (w : World) (h : OscIs w g n d c false) : Calls Try.prog 16 #[.pointer (some ⟨g, 0, none⟩)] w fun e w' => e = .returned (.bool true) ∧ w = w' := Steady_calls g n d c false w h
set_option maxHeartbeats 4000000 in
set_option maxRecDepth 100000 in
theorem Steady_no (n d : Int) (A : Option Addr) (len cap : Nat) (w : World) (n0 : -9223372036854775808 ≤ n) (n1 : n ≤ 9223372036854775807) (h : rightB n d = false) :
    Calls Try.prog 7 #[.agg #[.int .i64 n, .int .i64 d], .slice A len cap] w fun e w' => e = .returned (.bool true) ∧ Below w.heap.size w w' := by
  have H1 : Aside0 (osc_Right.f n d = some false) := ⟨by rw [Right_eq n d n0 n1, h]⟩
  clear h n0 n1
  have hu23 := Try.underlying23
  have BK0 : Aside0 ((w.alloc (.cells #[.int .i64 n, .int .i64 d] 23)).heap[w.heap.size]? = some (.cells #[.int .i64 n, .int .i64 d] 23 (0, 0))) := ⟨blk_new w _⟩
  have B0 : Aside0 (Below w.heap.size w (w.alloc (.cells #[.int .i64 n, .int .i64 d] 23))) := ⟨below_alloc (Below.refl _ _) _⟩
  go_enter Try.func7, Try.ntmps7
  go_wp2_with fail
  (with_reducible refine (New_no n d _ H1.out).mono ?_); rintro e w1 ⟨rfl, hb⟩
  obtain ⟨BK1, B1⟩ := keepBS BK0 B0 hb
  clear hb BK0 B0
  go_wp2_with fail
  (with_reducible refine (bellbuoylaw16_live.calls true _ rfl).mono ?_); rintro e w5 ⟨rfl, hb⟩
  go_wp2_with fail
  go_ret
  exact ⟨rfl, below_step B1.out hb⟩
set_option maxHeartbeats 8000000 in
set_option maxRecDepth 100000 in
theorem Steady_yes (n d : Int) (A : Option Addr) (len cap : Nat) (f : Nat → Int) (w : World) (n0 : 1 ≤ n) (n1 : n ≤ 1048576) (d0 : 0 ≤ d) (d1 : d < n) (hl : (len : Int) ≤ 9223372036854775807) (hrow : NumsS w A len f) :
    Calls Try.prog 7 #[.agg #[.int .i64 n, .int .i64 d], .slice A len cap] w fun e w' => e = .returned (.bool true) ∧ Below w.heap.size w w' := by
  have hr : rightB n d = true := decide_eq_true ⟨n0, n1, d0, d1⟩
  have H1 : Aside0 (osc_Right.f n d = some true) := ⟨by rw [Right_eq n d (by omega) (by omega), hr]⟩
  have HD : Aside0 (1 ≤ n ∧ n ≤ 1048576 ∧ 0 ≤ d ∧ d < n) := ⟨⟨n0, n1, d0, d1⟩⟩
  have HROW := Aside0.mk hrow
  clear hr n0 n1 d0 d1 hrow hl
  have hu23 := Try.underlying23
  have BK0 : Aside0 ((w.alloc (.cells #[.int .i64 n, .int .i64 d] 23)).heap[w.heap.size]? = some (.cells #[.int .i64 n, .int .i64 d] 23 (0, 0))) := ⟨blk_new w _⟩
  have B0 : Aside0 (Below w.heap.size w (w.alloc (.cells #[.int .i64 n, .int .i64 d] 23))) := ⟨below_alloc (Below.refl _ _) _⟩
  go_enter Try.func7, Try.ntmps7
  go_wp2_with fail
  (with_reducible refine (New_yes n d _ H1.out).mono ?_); rintro e w1 ⟨g, hg, rfl, hO, hb⟩
  obtain ⟨BK1, B1⟩ := keepBS BK0 B0 hb
  have HG : Aside0 (w.heap.size < g) := ⟨by simp at hg; omega⟩
  have ST1 : Aside0 (Sd w w1 g n d 0 false) := ⟨⟨hO, BK1.out, B1.out⟩⟩
  clear hb BK0 B0 hg hO BK1 B1
  go_wp2
  go_loopg [7, 8] 100 (fun kq v7 v8 w' => ∃ (m i c : Int) (wl : Bool), v7 = .int .i64 m ∧ v8 = .int .i64 i ∧ Aside0 (0 ≤ i ∧ i + kq = 100 ∧ 0 ≤ m ∧ m ≤ i) ∧ Aside0 (0 ≤ c ∧ c ≤ 1152921504606846976) ∧ Aside0 (Within n d m c wl) ∧ Aside0 (Sd w w' g n d c wl))
  case atStart => exact ⟨0, 0, 0, false, rfl, rfl, ⟨by omega⟩, ⟨by omega⟩, ⟨fun _ => by omega⟩, ST1⟩
  case round =>
    obtain ⟨m, i, c, wl, rfl, rfl, HI, HC, HW, ST⟩ := hrel
    clear ST1
    have fin : (¬ i < (len : Int)) ∨ (i < (len : Int) ∧ ¬ i < 100) ∨ (i < (len : Int) ∧ i < 100) := by omega
    rcases fin with t | ⟨t1, t2⟩ | ⟨t1, t2⟩
    case' inl => have u1 : decide (i < (len : Int)) = false := decide_eq_false t
    case' inr.inl =>
      have u1 : decide (i < (len : Int)) = true := decide_eq_true t1
      have u2 : decide (i < 100) = false := decide_eq_false t2
    case' inl => clear t
    case' inr.inl => clear t1 t2
    case inl | inr.inl =>
      obtain ⟨b0, b1, _, _⟩ := cells2S ST.out.k
      cases wl with
      | true =>
        go_wp2_with fail
        refine wp_region_held_drew (S := (fun _ : World => True)) (by kernel_rfl) trivial (fun hS0 => ?_)
        refine wpAnyH_ready (rs := [0]) (by kernel_rfl) (by simp) ?_
        refine AllReadyH.cons (o := ⟨some 44, _, _, _, _, _⟩) rfl (fun K hK => ?_) AllReadyH.nil
        go_simp
        go_at_call 12
        (with_reducible refine (bellbuoylaw16_live.calls true _ rfl).mono ?_); rintro e w5 ⟨rfl, hb⟩; have ST5 := Aside0.mk (ST.out.drew.below hb); clear hb
        dsimp only
        refine hK.out _ _ trivial (fun hS0 => ?_)
        clear hK K
        try simp only [Act.put, List.setIfInBounds_toArray, List.set_cons_zero, List.set_cons_succ]
        refine wpAnyH_take (i := 1) (oi := ⟨some 45, _, _, _, _, _⟩) (v := (.bool true)) rfl (by kernel_rfl) (by kernel_rfl) (by kernel_rfl) (fun _ _ _ h => h) (Or.inl ⟨by rfl, fun w hSw => by (try dsimp only at hSw); go_simp⟩) (by assumption) ?_
        try simp only [Act.put, List.setIfInBounds_toArray, List.set_cons_zero, List.set_cons_succ]
        refine wpAnyH_take (i := 2) (oi := ⟨some 46, _, _, _, _, _⟩) (v := (.pointer (some ⟨g, 0, none⟩))) rfl (by kernel_rfl) (by kernel_rfl) (by kernel_rfl) (fun _ _ _ h => h) (Or.inl ⟨by rfl, fun w hSw => by (try dsimp only at hSw); go_simp⟩) (by assumption) ?_
        try simp only [Act.put, List.setIfInBounds_toArray, List.set_cons_zero, List.set_cons_succ]
        refine wpAnyH_ready (rs := [3]) (by kernel_rfl) (by simp) ?_
        refine AllReadyH.cons (o := ⟨some 47, _, _, _, _, _⟩) rfl (fun K hK => ?_) AllReadyH.nil
        go_simp
        go_at_call 16
        (with_reducible refine (Steady_t g n d c _ ST5.out.o).mono ?_); rintro e w6 ⟨rfl, rfl⟩
        dsimp only
        refine hK.out _ _ trivial (fun hS3 => ?_)
        clear hK K
        try simp only [Act.put, List.setIfInBounds_toArray, List.set_cons_zero, List.set_cons_succ]
        refine wpAnyH_take (i := 4) (oi := ⟨some 48, _, _, _, _, _⟩) (v := (.bool true)) rfl (by kernel_rfl) (by kernel_rfl) (by kernel_rfl) (fun _ _ _ h => h) (Or.inl ⟨by rfl, fun w hSw => by (try dsimp only at hSw); go_simp⟩) (by assumption) ?_
        try simp only [Act.put, List.setIfInBounds_toArray, List.set_cons_zero, List.set_cons_succ]
        refine wpAnyH_take (i := 5) (oi := ⟨some 49, _, _, _, _, _⟩) (v := (.bool true)) rfl (by kernel_rfl) (by kernel_rfl) (by kernel_rfl) (fun _ _ _ h => h) (Or.inl ⟨by rfl, fun w hSw => by (try dsimp only at hSw); go_simp⟩) (by assumption) ?_
        try simp only [Act.put, List.setIfInBounds_toArray, List.set_cons_zero, List.set_cons_succ]
        refine wpAnyH_take (i := 6) (oi := ⟨some 50, _, _, _, _, _⟩) (v := undef) rfl (by kernel_rfl) (by kernel_rfl) (by kernel_rfl) (fun _ _ _ h => h) (Or.inr ⟨by rfl, rfl⟩) (by assumption) ?_
        try simp only [Act.put, List.setIfInBounds_toArray, List.set_cons_zero, List.set_cons_succ]
        refine wpAnyH_take (i := 7) (oi := ⟨some 51, _, _, _, _, _⟩) (v := undef) rfl (by kernel_rfl) (by kernel_rfl) (by kernel_rfl) (fun _ _ _ h => h) (Or.inr ⟨by rfl, rfl⟩) (by assumption) ?_
        try simp only [Act.put, List.setIfInBounds_toArray, List.set_cons_zero, List.set_cons_succ]
        refine wpAnyH_take (i := 8) (oi := ⟨some 52, _, _, _, _, _⟩) (v := undef) rfl (by kernel_rfl) (by kernel_rfl) (by kernel_rfl) (fun _ _ _ h => h) (Or.inr ⟨by rfl, rfl⟩) (by assumption) ?_
        try simp only [Act.put, List.setIfInBounds_toArray, List.set_cons_zero, List.set_cons_succ]
        refine wpAnyH_take (i := 9) (oi := ⟨some 53, _, _, _, _, _⟩) (v := undef) rfl (by kernel_rfl) (by kernel_rfl) (by kernel_rfl) (fun _ _ _ h => h) (Or.inr ⟨by rfl, rfl⟩) (by assumption) ?_
        try simp only [Act.put, List.setIfInBounds_toArray, List.set_cons_zero, List.set_cons_succ]
        refine wpAnyH_take (i := 10) (oi := ⟨some 54, _, _, _, _, _⟩) (v := undef) rfl (by kernel_rfl) (by kernel_rfl) (by kernel_rfl) (fun _ _ _ h => h) (Or.inr ⟨by rfl, rfl⟩) (by assumption) ?_
        try simp only [Act.put, List.setIfInBounds_toArray, List.set_cons_zero, List.set_cons_succ]
        refine wpAnyH_take (i := 11) (oi := ⟨some 55, _, _, _, _, _⟩) (v := undef) rfl (by kernel_rfl) (by kernel_rfl) (by kernel_rfl) (fun _ _ _ h => h) (Or.inr ⟨by rfl, rfl⟩) (by assumption) ?_
        try simp only [Act.put, List.setIfInBounds_toArray, List.set_cons_zero, List.set_cons_succ]
        refine wpAnyH_take (i := 12) (oi := ⟨some 56, _, _, _, _, _⟩) (v := undef) rfl (by kernel_rfl) (by kernel_rfl) (by kernel_rfl) (fun _ _ _ h => h) (Or.inr ⟨by rfl, rfl⟩) (by assumption) ?_
        try simp only [Act.put, List.setIfInBounds_toArray, List.set_cons_zero, List.set_cons_succ]
        refine wpAnyH_take (i := 13) (oi := ⟨some 57, _, _, _, _, _⟩) (v := undef) rfl (by kernel_rfl) (by kernel_rfl) (by kernel_rfl) (fun _ _ _ h => h) (Or.inr ⟨by rfl, rfl⟩) (by assumption) ?_
        try simp only [Act.put, List.setIfInBounds_toArray, List.set_cons_zero, List.set_cons_succ]
        refine wpAnyH_take (i := 14) (oi := ⟨some 58, _, _, _, _, _⟩) (v := undef) rfl (by kernel_rfl) (by kernel_rfl) (by kernel_rfl) (fun _ _ _ h => h) (Or.inr ⟨by rfl, rfl⟩) (by assumption) ?_
        try simp only [Act.put, List.setIfInBounds_toArray, List.set_cons_zero, List.set_cons_succ]
        refine wpAnyH_take (i := 15) (oi := ⟨some 59, _, _, _, _, _⟩) (v := undef) rfl (by kernel_rfl) (by kernel_rfl) (by kernel_rfl) (fun _ _ _ h => h) (Or.inr ⟨by rfl, rfl⟩) (by assumption) ?_
        try simp only [Act.put, List.setIfInBounds_toArray, List.set_cons_zero, List.set_cons_succ]
        refine wpAnyH_take (i := 16) (oi := ⟨some 60, _, _, _, _, _⟩) (v := undef) rfl (by kernel_rfl) (by kernel_rfl) (by kernel_rfl) (fun _ _ _ h => h) (Or.inr ⟨by rfl, rfl⟩) (by assumption) ?_
        try simp only [Act.put, List.setIfInBounds_toArray, List.set_cons_zero, List.set_cons_succ]
        refine wpAnyH_take (i := 17) (oi := ⟨some 61, _, _, _, _, _⟩) (v := undef) rfl (by kernel_rfl) (by kernel_rfl) (by kernel_rfl) (fun _ _ _ h => h) (Or.inr ⟨by rfl, rfl⟩) (by assumption) ?_
        try simp only [Act.put, List.setIfInBounds_toArray, List.set_cons_zero, List.set_cons_succ]
        refine wpAnyH_take (i := 18) (oi := ⟨some 62, _, _, _, _, _⟩) (v := undef) rfl (by kernel_rfl) (by kernel_rfl) (by kernel_rfl) (fun _ _ _ h => h) (Or.inr ⟨by rfl, rfl⟩) (by assumption) ?_
        try simp only [Act.put, List.setIfInBounds_toArray, List.set_cons_zero, List.set_cons_succ]
        refine wpAnyH_take (i := 19) (oi := ⟨some 63, _, _, _, _, _⟩) (v := undef) rfl (by kernel_rfl) (by kernel_rfl) (by kernel_rfl) (fun _ _ _ h => h) (Or.inr ⟨by rfl, rfl⟩) (by assumption) ?_
        try simp only [Act.put, List.setIfInBounds_toArray, List.set_cons_zero, List.set_cons_succ]
        refine wpAnyH_take (i := 20) (oi := ⟨some 64, _, _, _, _, _⟩) (v := undef) rfl (by kernel_rfl) (by kernel_rfl) (by kernel_rfl) (fun _ _ _ h => h) (Or.inr ⟨by rfl, rfl⟩) (by assumption) ?_
        try simp only [Act.put, List.setIfInBounds_toArray, List.set_cons_zero, List.set_cons_succ]
        refine wpAnyH_take (i := 21) (oi := ⟨some 65, _, _, _, _, _⟩) (v := undef) rfl (by kernel_rfl) (by kernel_rfl) (by kernel_rfl) (fun _ _ _ h => h) (Or.inr ⟨by rfl, rfl⟩) (by assumption) ?_
        try simp only [Act.put, List.setIfInBounds_toArray, List.set_cons_zero, List.set_cons_succ]
        refine wpAnyH_take (i := 22) (oi := ⟨some 66, _, _, _, _, _⟩) (v := undef) rfl (by kernel_rfl) (by kernel_rfl) (by kernel_rfl) (fun _ _ _ h => h) (Or.inr ⟨by rfl, rfl⟩) (by assumption) ?_
        try simp only [Act.put, List.setIfInBounds_toArray, List.set_cons_zero, List.set_cons_succ]
        refine wpAnyH_take (i := 23) (oi := ⟨some 67, _, _, _, _, _⟩) (v := undef) rfl (by kernel_rfl) (by kernel_rfl) (by kernel_rfl) (fun _ _ _ h => h) (Or.inr ⟨by rfl, rfl⟩) (by assumption) ?_
        try simp only [Act.put, List.setIfInBounds_toArray, List.set_cons_zero, List.set_cons_succ]
        refine wpAnyH_take (i := 24) (oi := ⟨some 68, _, _, _, _, _⟩) (v := undef) rfl (by kernel_rfl) (by kernel_rfl) (by kernel_rfl) (fun _ _ _ h => h) (Or.inr ⟨by rfl, rfl⟩) (by assumption) ?_
        try simp only [Act.put, List.setIfInBounds_toArray, List.set_cons_zero, List.set_cons_succ]
        refine wpAnyH_take (i := 25) (oi := ⟨some 69, _, _, _, _, _⟩) (v := undef) rfl (by kernel_rfl) (by kernel_rfl) (by kernel_rfl) (fun _ _ _ h => h) (Or.inr ⟨by rfl, rfl⟩) (by assumption) ?_
        try simp only [Act.put, List.setIfInBounds_toArray, List.set_cons_zero, List.set_cons_succ]
        refine wpAnyH_take (i := 26) (oi := ⟨some 70, _, _, _, _, _⟩) (v := undef) rfl (by kernel_rfl) (by kernel_rfl) (by kernel_rfl) (fun _ _ _ h => h) (Or.inr ⟨by rfl, rfl⟩) (by assumption) ?_
        try simp only [Act.put, List.setIfInBounds_toArray, List.set_cons_zero, List.set_cons_succ]
        refine wpAnyH_take (i := 27) (oi := ⟨some 71, _, _, _, _, _⟩) (v := undef) rfl (by kernel_rfl) (by kernel_rfl) (by kernel_rfl) (fun _ _ _ h => h) (Or.inr ⟨by rfl, rfl⟩) (by assumption) ?_
        try simp only [Act.put, List.setIfInBounds_toArray, List.set_cons_zero, List.set_cons_succ]
        refine wpAnyH_take (i := 28) (oi := ⟨some 72, _, _, _, _, _⟩) (v := (.bool true)) rfl (by kernel_rfl) (by kernel_rfl) (by kernel_rfl) (fun _ _ _ h => h) (Or.inl ⟨by rfl, fun w hSw => by (try dsimp only at hSw); go_simp⟩) (by assumption) ?_
        try simp only [Act.put, List.setIfInBounds_toArray, List.set_cons_zero, List.set_cons_succ]
        refine wpAnyH_take (i := 29) (oi := ⟨some 73, _, _, _, _, _⟩) (v := (.bool true)) rfl (by kernel_rfl) (by kernel_rfl) (by kernel_rfl) (fun _ _ _ h => h) (Or.inl ⟨by rfl, fun w hSw => by (try dsimp only at hSw); go_simp⟩) (by assumption) ?_
        try simp only [Act.put, List.setIfInBounds_toArray, List.set_cons_zero, List.set_cons_succ]
        refine wpAnyH_take (i := 30) (oi := ⟨some 4, _, _, _, _, _⟩) (v := (.bool true)) rfl (by kernel_rfl) (by kernel_rfl) (by kernel_rfl) (fun _ _ _ h => h) (Or.inl ⟨by rfl, fun w hSw => by (try dsimp only at hSw); go_simp⟩) (by assumption) ?_
        try simp only [Act.put, List.setIfInBounds_toArray, List.set_cons_zero, List.set_cons_succ]
        refine wpAnyH_done (by kernel_rfl) ?_ _
        go_wp2
        go_ret
        exact ⟨rfl, ST5.out.b⟩
      | false =>
        obtain ⟨x1, x2⟩ := HW.out rfl
        have y0 := HI.out
        have y1 := HD.out
        have z1 : 0 ≤ m * (n - d) ∧ m * (n - d) ≤ 100 * 1048576 := ⟨Int.mul_nonneg (by omega) (by omega), Int.mul_le_mul (by omega) (by omega) (by omega) (by omega)⟩
        have z2 : 0 ≤ m * (n + d) ∧ m * (n + d) ≤ 100 * 2097152 := ⟨Int.mul_nonneg (by omega) (by omega), Int.mul_le_mul (by omega) (by omega) (by omega) (by omega)⟩
        obtain ⟨p, hp⟩ : ∃ p, m * (n - d) = p := ⟨_, rfl⟩
        obtain ⟨q, hq⟩ : ∃ q, m * (n + d) = q := ⟨_, rfl⟩
        have v1 : wrap64 (n - d) = n - d := wr64 _ (by omega) (by omega)
        have v2 : wrap64 (n + d) = n + d := wr64 _ (by omega) (by omega)
        have v1w : IntKind.i64.wrap (n - d) = n - d := by rw [IntKind.wrap_i64]; omega
        have v2w : IntKind.i64.wrap (n + d) = n + d := by rw [IntKind.wrap_i64]; omega
        rw [hp] at z1 x1
        rw [hq] at z2 x2
        have v3 : wrap64 p = p := wr64 _ (by omega) (by omega)
        have v4 : wrap64 q = q := wr64 _ (by omega) (by omega)
        have v3w : IntKind.i64.wrap (m * (n - d)) = p := by rw [hp, IntKind.wrap_i64]; omega
        have v4w : IntKind.i64.wrap (m * (n + d)) = q := by rw [hq, IntKind.wrap_i64]; omega
        have v3x : wrap64 (m * (n - d)) = p := by rw [hp, v3]
        have v4x : wrap64 (m * (n + d)) = q := by rw [hq, v4]
        have x1' : decide (p ≤ c) = true := decide_eq_true x1
        have x2' : decide (c ≤ q) = true := decide_eq_true x2
        clear x1 x2 y0 y1 z1 z2 hp hq v3 v4
        go_wp2_with fail
        go_region_held3 (fun w' => w'.cell? ⟨w.heap.size, 0, none⟩ = some (.int .i64 n) ∧ w'.cell? ⟨w.heap.size, 1, none⟩ = some (.int .i64 d)) (go_keep)
          (first
            | (go_at_call 12; (with_reducible refine (bellbuoylaw16_live.calls true _ rfl).mono ?_); rintro e w5 ⟨rfl, hb⟩; have ST5 := Aside0.mk (ST.out.drew.below hb); clear hb; obtain ⟨c0, c1, f0, f1⟩ := cells2S ST5.out.k)
            | (go_at_call 16; (with_reducible refine (Steady_f g n d c _ ST5.out.o).mono ?_); rintro e w6 ⟨rfl, rfl⟩)
            | (go_at_call 15; (with_reducible refine (Count_calls g n d c false _ ST5.out.o).mono ?_); rintro e w6 ⟨rfl, rfl⟩))
        go_wp2
        go_ret
        exact ⟨rfl, ST5.out.b⟩
    · have u1 : decide (i < (len : Int)) = true := decide_eq_true t1
      have u2 : decide (i < 100) = true := decide_eq_true t2
      obtain ⟨k1, rfl⟩ : ∃ k1, gk = k1 + 1 := ⟨gk - 1, by have := HI.out; omega⟩
      have hlt : i.toNat < len := by have := HI.out; omega
      obtain ⟨ad, rfl, _⟩ := HROW.out i.toNat hlt
      obtain ⟨x, hx⟩ : ∃ x, f i.toNat = x := ⟨_, rfl⟩
      obtain ⟨r, c', wl', hs⟩ : ∃ r c' wl', stepF n d c wl x = (r, c', wl') := ⟨_, _, _, rfl⟩
      have HC' : Aside0 (0 ≤ c' ∧ c' ≤ 1152921504606846976) := ⟨stepF_boundsS hs HC.out.1 HC.out.2⟩
      have HS := Aside0.mk hs
      have hcell := HROW.out.at_ ST.out.b i.toNat hlt
      rw [hx] at hcell
      have p0 : (0 ≤ i) = True := eq_true HI.out.1
      have q0 : (i < (len : Int)) = True := eq_true t1
      have hi1 : wrap64 (i + 1) = i + 1 := wr64 _ (by have := HI.out; omega) (by have := HI.out; omega)
      have hm1 : wrap64 (m + 1) = m + 1 := wr64 _ (by have := HI.out; omega) (by have := HI.out; omega)
      by_cases hr0 : r = 0
      · have HW2 := Aside0.mk ((within_step hs HW.out).1 hr0)
        subst hr0
        have HI' : Aside0 (0 ≤ i + 1 ∧ i + 1 + k1 = 100 ∧ 0 ≤ m + 1 ∧ m + 1 ≤ i + 1) := ⟨by have := HI.out; omega⟩
        clear hs hlt t1 t2 hx
        go_wp2_with fail
        (with_reducible refine (Step_calls g n d c x 0 c' wl wl' _ ST.out.o HC.out.1 HC.out.2 HD.out.1 HD.out.2.1 HS.out).mono ?_); rintro e w5 hp; obtain rfl := hp.1; have ST5 := Aside0.mk (ST.out.step HG.out hp); clear hp
        go_wp2
        go_roundg k1
        case measure => omega
        case rel => exact ⟨m + 1, i + 1, c', wl', by rw [hm1], by rw [hi1], HI', HC', HW2, ST5⟩
      · have HI' : Aside0 (0 ≤ i + 1 ∧ i + 1 + k1 = 100 ∧ 0 ≤ m ∧ m ≤ i + 1) := ⟨by have := HI.out; omega⟩
        have HW2 := Aside0.mk ((within_step hs HW.out).2 hr0)
        have hb0 : (r == 0) = false := by simpa using hr0
        have HR := Aside0.mk hr0
        clear hs hlt t1 t2 hx hr0
        go_wp2_with fail
        (with_reducible refine (Step_calls g n d c x r c' wl wl' _ ST.out.o HC.out.1 HC.out.2 HD.out.1 HD.out.2.1 HS.out).mono ?_); rintro e w5 hp; obtain rfl := hp.1; have ST5 := Aside0.mk (ST.out.step HG.out hp); clear hp
        go_wp2
        go_roundg k1
        case measure => omega
        case rel => exact ⟨m, i + 1, c', wl', rfl, by rw [hi1], HI', HC', HW2, ST5⟩
theorem OscSteady_walk (a0_0 a0_1 : Int) (A : Option Addr) (len cap : Nat) (z : List Int) (w : World) (w0 : (Lit.int .i64 a0_0).wf = true) (w1 : (Lit.int .i64 a0_1).wf = true)
    (h : (A = none ∧ len = 0 ∧ cap = 0 ∧ z = []) ∨ ∃ x, A = some x ∧ len ≤ cap ∧ cap ≤ maxLen ∧ z.length = cap ∧ (∀ i, i < z.length → w.cell? (x.add i) = some (.int .i64 (z.getD i 0))) ∧ ∀ n ∈ z, (Lit.int .i64 n).wf = true) (y : len * 8 ≤ 140737488351232) :
    Calls Try.prog 7 #[.agg #[.int .i64 a0_0, .int .i64 a0_1], .slice A len cap] w fun e w' => e = .returned (.bool true) ∧ Below w.heap.size w w' := by
  simp only [Lit.wf, Bool.and_eq_true, decide_eq_true_eq] at w0
  have b0 : -9223372036854775808 ≤ a0_0 := w0.1
  have b1 : a0_0 ≤ 9223372036854775807 := w0.2
  cases hr : rightB a0_0 a0_1 with
  | false => exact Steady_no a0_0 a0_1 A len cap w b0 b1 hr
  | true =>
    have hr' := of_decide_eq_true hr
    exact Steady_yes a0_0 a0_1 A len cap (fun i => z.getD i 0) w hr'.1 hr'.2.1 hr'.2.2.1 hr'.2.2.2 (by omega) (nums_rowS h)
end Go.Proofs.Ytdlpmbjnplnjnaa.P
