/- Whatever ticks bits have: the walk through the law, for every oscillator and ticks. Conditions: the slice's cells can be read. -/
import Derived.Test.YtdlpmbjnplnjnaaOscRef
namespace Go.Proofs.Ytdlpmbjnplnjnaa.P
open Go.RowKit Go.Proofs.YtdlpmbjnplnjnaaW.PrintWords Go.Proofs.YtdlpmbjnplnjnaaW.PrintLast Go.Proofs.YtdlpmbjnplnjnaaW.PrintMore
set_option linter.unusedVariables false
set_option linter.unusedSimpArgs false
/-- What a slice of numbers has, cell by cell. -/
def Nums (w : World) (A : Option Addr) (len : Nat) (f : Nat → Int) : Prop := ∀ i, i < len → ∃ ad, A = some ad ∧ w.cell? (ad.add i) = some (.int .i64 (f i))
theorem Nums.below {w w1 : World} {A : Option Addr} {len : Nat} {f : Nat → Int} (h : Nums w A len f) (hb : Below w.heap.size w w1) : Nums w1 A len f := fun i hi => by
  obtain ⟨ad, e, hc⟩ := h i hi
  exact ⟨ad, e, pw_cell_below hb hc⟩
theorem nums_row {w : World} {A : Option Addr} {len cap : Nat} {z : List Int} (h : (A = none ∧ len = 0 ∧ cap = 0 ∧ z = []) ∨ ∃ x, A = some x ∧ len ≤ cap ∧ cap ≤ maxLen ∧ z.length = cap ∧ (∀ i, i < z.length → w.cell? (x.add i) = some (.int .i64 (z.getD i 0))) ∧ ∀ n ∈ z, (Lit.int .i64 n).wf = true) :
    Nums w A len (fun i => z.getD i 0) ∧ ∀ i, i < len → (Lit.int .i64 (z.getD i 0)).wf = true := by
  rcases h with ⟨_, rfl, _, _⟩ | ⟨x, rfl, h1, h2, h3, h4, h5⟩
  · exact ⟨fun i hi => absurd hi (Nat.not_lt_zero _), fun i hi => absurd hi (Nat.not_lt_zero _)⟩
  · refine ⟨fun i hi => ⟨x, rfl, h4 i (by omega)⟩, fun i hi => h5 _ ?_⟩
    rw [List.getD_eq_getElem?_getD, List.getElem?_eq_getElem (by omega)]
    exact List.getElem_mem _
theorem stepF_bounds {n d c t r c' : Int} {wl wl' : Bool} (hs : stepF n d c wl t = (r, c', wl')) (h0 : 0 ≤ c) (h1 : c ≤ 1152921504606846976) : 0 ≤ c' ∧ c' ≤ 1152921504606846976 := by
  unfold stepF at hs
  split at hs
  · simp only [Prod.mk.injEq] at hs; omega
  · split at hs
    · simp only [Prod.mk.injEq] at hs; omega
    · simp only [Prod.mk.injEq] at hs; omega
theorem cells2o {w : World} {g : Nat} {a b : Value} {t : TypeId} (h : w.heap[g]? = some (.cells #[a, b] t (0, 0))) :
    w.cell? ⟨g, 0, none⟩ = some a ∧ w.cell? ⟨g, 1, none⟩ = some b ∧ w.frozen? ⟨g, 0, none⟩ = false ∧ w.frozen? ⟨g, 1, none⟩ = false :=
  ⟨(blk_cell h 0).trans rfl, (blk_cell h 1).trans rfl, blk_frozen h 0, blk_frozen h 1⟩
theorem keepB {w w1 w2 : World} {g : Nat} {o : Obj} (hK : Aside0 (w1.heap[g]? = some o)) (hB : Aside0 (Below w.heap.size w w1)) (hb : Below w1.heap.size w1 w2) : Aside0 (w2.heap[g]? = some o) ∧ Aside0 (Below w.heap.size w w2) :=
  ⟨⟨blk_below hK.out hb⟩, ⟨below_step hB.out hb⟩⟩
set_option maxHeartbeats 4000000 in
set_option maxRecDepth 100000 in
theorem Counts_no (n d : Int) (A : Option Addr) (len cap : Nat) (w : World) (n0 : -9223372036854775808 ≤ n) (n1 : n ≤ 9223372036854775807) (h : rightB n d = false) :
    Calls Try.prog 3 #[.agg #[.int .i64 n, .int .i64 d], .slice A len cap] w fun e w' => e = .returned (.bool true) ∧ Below w.heap.size w w' := by
  have H1 : Aside0 (osc_Right.f n d = some false) := ⟨by rw [Right_eq n d n0 n1, h]⟩
  have H2 : Aside0 (bellbuoyref16_Right.f n d = some false) := ⟨by rw [refRight_eq, h]⟩
  clear h n0 n1
  have hu23 := Try.underlying23
  have BK0 : Aside0 ((w.alloc (.cells #[.int .i64 n, .int .i64 d] 23)).heap[w.heap.size]? = some (.cells #[.int .i64 n, .int .i64 d] 23 (0, 0))) := ⟨blk_new w _⟩
  have B0 : Aside0 (Below w.heap.size w (w.alloc (.cells #[.int .i64 n, .int .i64 d] 23))) := ⟨below_alloc (Below.refl _ _) _⟩
  go_enter Try.func3, Try.ntmps3
  go_wp2_with fail
  (with_reducible refine (New_no n d _ H1.out).mono ?_); rintro e w1 ⟨rfl, hb⟩
  obtain ⟨BK1, B1⟩ := keepB BK0 B0 hb
  clear hb BK0 B0
  obtain ⟨c0, c1, f0, f1⟩ := cells2o BK1.out
  go_wp2_with fail
  (with_reducible refine (RefNew_no n d _ H2.out).mono ?_); rintro e w2 ⟨rfl, hb⟩
  obtain ⟨BK2, B2⟩ := keepB BK1 B1 hb
  clear hb BK1 B1 c0 c1 f0 f1
  obtain ⟨c0, c1, f0, f1⟩ := cells2o BK2.out
  go_wp2_with fail
  go_region_held3 (fun w' => w'.cell? ⟨w.heap.size, 0, none⟩ = some (.int .i64 n) ∧ w'.cell? ⟨w.heap.size, 1, none⟩ = some (.int .i64 d)) (go_keep)
    (first
      | (go_at_call 10; (with_reducible refine (osc_Right.calls n d false _ H1.out).mono ?_); rintro e w3 ⟨rfl, hb⟩; obtain ⟨BK3, B3⟩ := keepB (by first | exact BK2 | exact ⟨blk_drew BK2.out⟩) (by first | exact B2 | exact ⟨below_drew1 B2.out⟩) hb; clear hb; obtain ⟨c2, c3, f2, f3⟩ := cells2o BK3.out)
      | (go_at_call 11; (with_reducible refine (bellbuoyref16_Right.calls n d false _ H2.out).mono ?_); rintro e w4 ⟨rfl, hb⟩; obtain ⟨BK4, B4⟩ := keepB BK3 B3 hb; clear hb; obtain ⟨c4, c5, f4, f5⟩ := cells2o BK4.out))
  go_wp2_with fail
  (with_reducible refine (bellbuoylaw16_live.calls true _ rfl).mono ?_); rintro e w5 ⟨rfl, hb⟩
  go_wp2_with fail
  go_ret
  exact ⟨rfl, below_step B4.out hb⟩

theorem keep_blk {w w' : World} {g k : Nat} {o : Obj} (h : KeepBut w w' g none) (hk : w.heap[k]? = some o) (hne : k ≠ g) : w'.heap[k]? = some o := by
  have hlt : k < w.heap.size := (Array.getElem?_eq_some_iff.1 hk).1
  rw [h.2 k hlt hne (by simp)]
  exact hk
/-- Both oscillators, of one and the same ticks, and all that is elder as it was. -/
structure St (w W : World) (g k : Nat) (n d c c2 : Int) (wl wl2 : Bool) : Prop where
  o : OscIs W g n d c wl
  r : RefIs W k n d c2 wl2
  b : Below w.heap.size w W
theorem St.drew {w W : World} {g k : Nat} {n d c c2 : Int} {wl wl2 : Bool} (h : St w W g k n d c c2 wl wl2) : St w W.drew g k n d c c2 wl wl2 := ⟨blk_drew h.o, blk_drew h.r, below_drew1 h.b⟩
theorem St.step {w W W' : World} {g k : Nat} {n d c c2 r c' : Int} {wl wl2 wl' : Bool} {e : Ending} (h : St w W g k n d c c2 wl wl2) (hg : w.heap.size ≤ g) (hne : k ≠ g) (hp : StepPost g n d r c' wl' W e W') : St w W' g k n d c' c2 wl' wl2 :=
  ⟨hp.2.1, keep_blk hp.2.2.1 h.r hne, h.b.trans (hp.2.2.2 _ hg h.b.size)⟩
theorem St.ref {w W W' : World} {g k : Nat} {n d c c2 r c' : Int} {wl wl2 wl' : Bool} {e : Ending} (h : St w W g k n d c c2 wl wl2) (hg : w.heap.size ≤ k) (hne : g ≠ k) (hp : RefPost k n d r c' wl' W e W') : St w W' g k n d c c' wl wl' :=
  ⟨keep_blk hp.2.2.1 h.o hne, hp.2.1, h.b.trans (hp.2.2.2 _ hg h.b.size)⟩
theorem Nums.at_ {w W : World} {ad : Addr} {len : Nat} {f : Nat → Int} (h : Nums w (some ad) len f) (hb : Below w.heap.size w W) (i : Nat) (hi : i < len) : W.cell? (ad.add i) = some (.int .i64 (f i)) := by
  obtain ⟨ad', e, hc⟩ := h.below hb i hi
  cases e
  exact hc
theorem wpAnyH_weaken {P : Program} {ops : Array Oper} {Q : Exit → Act → World → Prop} {md : Region.Mode} {S S' : World → Prop} (h : ∀ w, S' w → S w) :
    ∀ (fuel : Nat) (listed : Array Bool) (a : Act) (w : World), wpAnyH P md ops Q S' fuel listed a w → wpAnyH P md ops Q S fuel listed a w
  | 0, _, _, _, hw => hw
  | fuel + 1, listed, a, w, hw => ⟨hw.1, fun i hi => wpOp_mono (fun a' w' hh => ⟨h w' hh.1, wpAnyH_weaken h fuel _ a' w' hh.2⟩) (hw.2 i hi)⟩
set_option maxHeartbeats 8000000 in
set_option maxRecDepth 100000 in
theorem Counts_yes (n d : Int) (A : Option Addr) (len cap : Nat) (f : Nat → Int) (w : World) (n0 : 1 ≤ n) (n1 : n ≤ 1048576) (d0 : 0 ≤ d) (d1 : d < n) (hl : (len : Int) ≤ 9223372036854775807) (hrow : Nums w A len f) :
    Calls Try.prog 3 #[.agg #[.int .i64 n, .int .i64 d], .slice A len cap] w fun e w' => e = .returned (.bool true) ∧ Below w.heap.size w w' := by
  have hr : rightB n d = true := decide_eq_true ⟨n0, n1, d0, d1⟩
  have H1 : Aside0 (osc_Right.f n d = some true) := ⟨by rw [Right_eq n d (by omega) (by omega), hr]⟩
  have H2 : Aside0 (bellbuoyref16_Right.f n d = some true) := ⟨by rw [refRight_eq, hr]⟩
  have HD : Aside0 (1 ≤ n ∧ n ≤ 1048576 ∧ 0 ≤ d ∧ d < n) := ⟨⟨n0, n1, d0, d1⟩⟩
  have HROW := Aside0.mk hrow
  have HL := Aside0.mk hl
  clear hr n0 n1 d0 d1 hrow hl
  have hu23 := Try.underlying23
  have hu37 := Try.underlying37
  have BK0 : Aside0 ((w.alloc (.cells #[.int .i64 n, .int .i64 d] 23)).heap[w.heap.size]? = some (.cells #[.int .i64 n, .int .i64 d] 23 (0, 0))) := ⟨blk_new w _⟩
  have B0 : Aside0 (Below w.heap.size w (w.alloc (.cells #[.int .i64 n, .int .i64 d] 23))) := ⟨below_alloc (Below.refl _ _) _⟩
  go_enter Try.func3, Try.ntmps3
  go_wp2_with fail
  (with_reducible refine (New_yes n d _ H1.out).mono ?_); rintro e w1 ⟨g, hg, rfl, hO, hb⟩
  obtain ⟨BK1, B1⟩ := keepB BK0 B0 hb
  have HG : Aside0 (w.heap.size ≤ g) := ⟨Nat.le_trans B0.out.size hg⟩
  have HO1 : Aside0 (OscIs w1 g n d 0 false) := ⟨hO⟩
  clear hb BK0 B0 hg hO
  obtain ⟨c0, c1, f0, f1⟩ := cells2o BK1.out
  go_wp2_with fail
  (with_reducible refine (RefNew_yes n d _ H2.out).mono ?_); rintro e w2 ⟨k, hk, rfl, hR, hb⟩
  obtain ⟨BK2, B2⟩ := keepB BK1 B1 hb
  have HK : Aside0 (w.heap.size ≤ k) := ⟨Nat.le_trans B1.out.size hk⟩
  have HN : Aside0 (k ≠ g) := ⟨by have := blk_lt HO1.out; omega⟩
  have ST2 : Aside0 (St w w2 g k n d 0 0 false false) := ⟨⟨blk_below HO1.out hb, hR, B2.out⟩⟩
  clear hb BK1 B1 c0 c1 f0 f1 hk hR HO1
  obtain ⟨c0, c1, f0, f1⟩ := cells2o BK2.out
  go_wp2_with fail
  go_region_held3 (fun w' => w'.cell? ⟨w.heap.size, 0, none⟩ = some (.int .i64 n) ∧ w'.cell? ⟨w.heap.size, 1, none⟩ = some (.int .i64 d)) (go_keep)
    (first
      | (go_at_call 10; (with_reducible refine (osc_Right.calls n d true _ H1.out).mono ?_); rintro e w3 ⟨rfl, hb⟩; have ST3 : Aside0 (St w w3 g k n d 0 0 false false) := ⟨⟨blk_below (blk_drew ST2.out.o) hb, blk_below (blk_drew ST2.out.r) hb, below_step ST2.out.drew.b hb⟩⟩; obtain ⟨c2, c3, f2, f3⟩ := cells2o (blk_below (blk_drew BK2.out) hb); have BK3 : Aside0 (w3.heap[w.heap.size]? = some (.cells #[.int .i64 n, .int .i64 d] 23 (0, 0))) := ⟨blk_below (blk_drew BK2.out) hb⟩; clear hb)
      | (go_at_call 11; (with_reducible refine (bellbuoyref16_Right.calls n d true _ H2.out).mono ?_); rintro e w4 ⟨rfl, hb⟩; have ST4 : Aside0 (St w w4 g k n d 0 0 false false) := ⟨⟨blk_below ST3.out.o hb, blk_below ST3.out.r hb, below_step ST3.out.b hb⟩⟩; obtain ⟨c4, c5, f4, f5⟩ := cells2o (blk_below BK3.out hb); clear hb))
  clear c0 c1 c2 c3 f0 f1 f2 f3 c4 c5 f4 f5 BK3 BK2 ST2 ST3 B2
  go_wp2
  go_loopg [9] 100 (fun kq v9 w' => ∃ (i c : Int) (wl : Bool), v9 = .int .i64 i ∧ Aside0 (0 ≤ i ∧ i + kq = 100) ∧ Aside0 (0 ≤ c ∧ c ≤ 1152921504606846976) ∧ Aside0 (St w w' g k n d c c wl wl))
  case atStart => exact ⟨0, 0, false, rfl, ⟨by omega⟩, ⟨by omega⟩, ST4⟩
  case round =>
    obtain ⟨i, c, wl, rfl, HI, HC, ST⟩ := hrel
    clear ST4
    by_cases t1 : i < (len : Int)
    · have u1 : decide (i < (len : Int)) = true := decide_eq_true t1
      by_cases t2 : i < 100
      · have u2 : decide (i < 100) = true := decide_eq_true t2
        obtain ⟨k1, rfl⟩ : ∃ k1, gk = k1 + 1 := ⟨gk - 1, by have := HI.out; omega⟩
        have hlt : i.toNat < len := by have := HI.out; omega
        obtain ⟨ad, rfl, _⟩ := HROW.out i.toNat hlt
        obtain ⟨x, hx⟩ : ∃ x, f i.toNat = x := ⟨_, rfl⟩
        obtain ⟨r, c', wl', hs⟩ : ∃ r c' wl', stepF n d c wl x = (r, c', wl') := ⟨_, _, _, rfl⟩
        have HS := Aside0.mk hs
        have HC' : Aside0 (0 ≤ c' ∧ c' ≤ 1152921504606846976) := ⟨stepF_bounds hs HC.out.1 HC.out.2⟩
        have hcell := HROW.out.at_ ST.out.b i.toNat hlt
        rw [hx] at hcell
        have HI' : Aside0 (0 ≤ i + 1 ∧ i + 1 + k1 = 100) := ⟨by have := HI.out; omega⟩
        have hi1 : wrap64 (i + 1) = i + 1 := wr64 _ (by have := HI.out; omega) (by have := HI.out; omega)
        have p0 : (0 ≤ i) = True := eq_true HI.out.1
        have q0 : (i < (len : Int)) = True := eq_true t1
        have hne : (r != r) = false := by simp
        have hne2 : (c' != c') = false := by simp
        have hne3 : ((!wl') == wl') = false := by cases wl' <;> rfl
        have HLT := Aside0.mk hlt
        have HX := Aside0.mk hx
        clear hs hlt t1 t2 hx
        go_wp2_with fail
        refine wp_region_held_drew (S := (fun w' : World => w'.cell? (ad.add i.toNat) = some (.int .i64 x))) (by kernel_rfl) (by simpa using hcell) (fun hS0 => ?_)
        refine wpAnyH_take (i := 0) (oi := ⟨some 50, _, _, _, _, _⟩) (v := (.pointer (some ⟨g, 0, none⟩))) rfl (by kernel_rfl) (by kernel_rfl) (by kernel_rfl) (fun _ _ _ h => h) (Or.inl ⟨by rfl, fun w hSw => by (try dsimp only at hSw); go_simp⟩) (by assumption) ?_
        try simp only [Act.put, List.setIfInBounds_toArray, List.set_cons_zero, List.set_cons_succ]
        refine wpAnyH_take (i := 1) (oi := ⟨some 51, _, _, _, _, _⟩) (v := (.slice (some ad) len cap)) rfl (by kernel_rfl) (by kernel_rfl) (by kernel_rfl) (fun _ _ _ h => h) (Or.inl ⟨by rfl, fun w hSw => by (try dsimp only at hSw); go_simp⟩) (by assumption) ?_
        try simp only [Act.put, List.setIfInBounds_toArray, List.set_cons_zero, List.set_cons_succ]
        refine wpAnyH_take (i := 2) (oi := ⟨some 52, _, _, _, _, _⟩) (v := (.int .i64 i)) rfl (by kernel_rfl) (by kernel_rfl) (by kernel_rfl) (fun _ _ _ h => h) (Or.inl ⟨by rfl, fun w hSw => by (try dsimp only at hSw); go_simp⟩) (by assumption) ?_
        try simp only [Act.put, List.setIfInBounds_toArray, List.set_cons_zero, List.set_cons_succ]
        refine wpAnyH_take (i := 3) (oi := ⟨some 53, _, _, _, _, _⟩) (v := (.pointer (some (ad.add i.toNat)))) rfl (by kernel_rfl) (by kernel_rfl) (by kernel_rfl) (fun _ _ _ h => h) (Or.inl ⟨by rfl, fun w hSw => by (try dsimp only at hSw); go_simp⟩) (by assumption) ?_
        try simp only [Act.put, List.setIfInBounds_toArray, List.set_cons_zero, List.set_cons_succ]
        refine wpAnyH_take (i := 4) (oi := ⟨some 54, _, _, _, _, _⟩) (v := (.int .i64 x)) rfl (by kernel_rfl) (by kernel_rfl) (by kernel_rfl) (fun _ _ _ h => h) (Or.inl ⟨by rfl, fun w hSw => by (try dsimp only at hSw); go_simp⟩) (by assumption) ?_
        try simp only [Act.put, List.setIfInBounds_toArray, List.set_cons_zero, List.set_cons_succ]
        refine wpAnyH_take (i := 6) (oi := ⟨some 56, _, _, _, _, _⟩) (v := (.pointer (some ⟨k, 0, none⟩))) rfl (by kernel_rfl) (by kernel_rfl) (by kernel_rfl) (fun _ _ _ h => h) (Or.inl ⟨by rfl, fun w hSw => by (try dsimp only at hSw); go_simp⟩) (by assumption) ?_
        try simp only [Act.put, List.setIfInBounds_toArray, List.set_cons_zero, List.set_cons_succ]
        refine wpAnyH_take (i := 7) (oi := ⟨some 57, _, _, _, _, _⟩) (v := (.slice (some ad) len cap)) rfl (by kernel_rfl) (by kernel_rfl) (by kernel_rfl) (fun _ _ _ h => h) (Or.inl ⟨by rfl, fun w hSw => by (try dsimp only at hSw); go_simp⟩) (by assumption) ?_
        try simp only [Act.put, List.setIfInBounds_toArray, List.set_cons_zero, List.set_cons_succ]
        refine wpAnyH_take (i := 8) (oi := ⟨some 58, _, _, _, _, _⟩) (v := (.int .i64 i)) rfl (by kernel_rfl) (by kernel_rfl) (by kernel_rfl) (fun _ _ _ h => h) (Or.inl ⟨by rfl, fun w hSw => by (try dsimp only at hSw); go_simp⟩) (by assumption) ?_
        try simp only [Act.put, List.setIfInBounds_toArray, List.set_cons_zero, List.set_cons_succ]
        refine wpAnyH_take (i := 9) (oi := ⟨some 59, _, _, _, _, _⟩) (v := (.pointer (some (ad.add i.toNat)))) rfl (by kernel_rfl) (by kernel_rfl) (by kernel_rfl) (fun _ _ _ h => h) (Or.inl ⟨by rfl, fun w hSw => by (try dsimp only at hSw); go_simp⟩) (by assumption) ?_
        try simp only [Act.put, List.setIfInBounds_toArray, List.set_cons_zero, List.set_cons_succ]
        refine wpAnyH_take (i := 10) (oi := ⟨some 60, _, _, _, _, _⟩) (v := (.int .i64 x)) rfl (by kernel_rfl) (by kernel_rfl) (by kernel_rfl) (fun _ _ _ h => h) (Or.inl ⟨by rfl, fun w hSw => by (try dsimp only at hSw); go_simp⟩) (by assumption) ?_
        try simp only [Act.put, List.setIfInBounds_toArray, List.set_cons_zero, List.set_cons_succ]
        refine wpAnyH_ready (rs := [5]) (by kernel_rfl) (by simp) ?_
        refine AllReadyH.cons (o := ⟨some 55, _, _, _, _, _⟩) rfl (fun K hK => ?_) AllReadyH.nil
        go_simp
        go_at_call 13
        (with_reducible refine (Step_calls g n d c x r c' wl wl' _ ST.out.drew.o HC.out.1 HC.out.2 HD.out.1 HD.out.2.1 HS.out).mono ?_); rintro e w5 hp; obtain rfl := hp.1; have ST5 := Aside0.mk (ST.out.drew.step HG.out HN.out hp); clear hp; have e5 := HROW.out.at_ ST5.out.b i.toNat HLT.out; rw [HX.out] at e5
        dsimp only
        refine hK.out _ _ e5 (fun hS5 => ?_)
        clear hK K
        try simp only [Act.put, List.setIfInBounds_toArray, List.set_cons_zero, List.set_cons_succ]
        refine wpAnyH_ready (rs := [11]) (by kernel_rfl) (by simp) ?_
        refine AllReadyH.cons (o := ⟨some 61, _, _, _, _, _⟩) rfl (fun K hK => ?_) AllReadyH.nil
        go_simp
        go_at_call 14
        (with_reducible refine (RefStep_calls k n d c x r c' wl wl' _ ST5.out.r HC.out.1 HC.out.2 HD.out.1 HD.out.2.1 HD.out.2.2.1 HD.out.2.2.2 HS.out).mono ?_); rintro e w6 hp; obtain rfl := hp.1; have ST6 := Aside0.mk (ST5.out.ref HK.out (Ne.symm HN.out) hp); clear hp; have e6 := HROW.out.at_ ST6.out.b i.toNat HLT.out; rw [HX.out] at e6; obtain ⟨r0, r1, r2, r3, s0, s1, s2, s3⟩ := cells4 ST6.out.r
        dsimp only
        refine hK.out _ _ e6 (fun hS11 => ?_)
        clear hK K
        try simp only [Act.put, List.setIfInBounds_toArray, List.set_cons_zero, List.set_cons_succ]
        refine wpAnyH_weaken (S' := (fun w' : World => w'.cell? (ad.add i.toNat) = some (.int .i64 x) ∧ w'.cell? ⟨k, 2, none⟩ = some (.int .i64 c') ∧ w'.cell? ⟨k, 3, none⟩ = some (.bool wl'))) (fun _ h => h.1) _ _ _ _ ?_
        have hSx := And.intro e6 (And.intro r2 r3)
        refine wpAnyH_take (i := 12) (oi := ⟨some 62, _, _, _, _, _⟩) (v := (.bool false)) rfl (by kernel_rfl) (by kernel_rfl) (by kernel_rfl) (fun _ _ _ h => h) (Or.inl ⟨by rfl, fun w hSw => by (try dsimp only at hSw); go_simp⟩) (by assumption) ?_
        try simp only [Act.put, List.setIfInBounds_toArray, List.set_cons_zero, List.set_cons_succ]
        refine wpAnyH_take (i := 13) (oi := ⟨some 63, _, _, _, _, _⟩) (v := (.bool false)) rfl (by kernel_rfl) (by kernel_rfl) (by kernel_rfl) (fun _ _ _ h => h) (Or.inl ⟨by rfl, fun w hSw => by (try dsimp only at hSw); go_simp⟩) (by assumption) ?_
        try simp only [Act.put, List.setIfInBounds_toArray, List.set_cons_zero, List.set_cons_succ]
        refine wpAnyH_take (i := 14) (oi := ⟨some 64, _, _, _, _, _⟩) (v := (.pointer (some ⟨g, 0, none⟩))) rfl (by kernel_rfl) (by kernel_rfl) (by kernel_rfl) (fun _ _ _ h => h) (Or.inl ⟨by rfl, fun w hSw => by (try dsimp only at hSw); go_simp⟩) (by assumption) ?_
        try simp only [Act.put, List.setIfInBounds_toArray, List.set_cons_zero, List.set_cons_succ]
        refine wpAnyH_take (i := 16) (oi := ⟨some 66, _, _, _, _, _⟩) (v := (.pointer (some ⟨k, 0, none⟩))) rfl (by kernel_rfl) (by kernel_rfl) (by kernel_rfl) (fun _ _ _ h => h) (Or.inl ⟨by rfl, fun w hSw => by (try dsimp only at hSw); go_simp⟩) (by assumption) ?_
        try simp only [Act.put, List.setIfInBounds_toArray, List.set_cons_zero, List.set_cons_succ]
        refine wpAnyH_take (i := 17) (oi := ⟨some 67, _, _, _, _, _⟩) (v := (.pointer (some ⟨k, 0, none⟩))) rfl (by kernel_rfl) (by kernel_rfl) (by kernel_rfl) (fun _ _ _ h => h) (Or.inl ⟨by rfl, fun w hSw => by (try dsimp only at hSw); go_simp⟩) (by assumption) ?_
        try simp only [Act.put, List.setIfInBounds_toArray, List.set_cons_zero, List.set_cons_succ]
        refine wpAnyH_take (i := 18) (oi := ⟨some 68, _, _, _, _, _⟩) (v := (.pointer (some ⟨k, 2, none⟩))) rfl (by kernel_rfl) (by kernel_rfl) (by kernel_rfl) (fun _ _ _ h => h) (Or.inl ⟨by rfl, fun w hSw => by (try dsimp only at hSw); go_simp⟩) (by assumption) ?_
        try simp only [Act.put, List.setIfInBounds_toArray, List.set_cons_zero, List.set_cons_succ]
        refine wpAnyH_take (i := 19) (oi := ⟨some 69, _, _, _, _, _⟩) (v := (.int .i64 c')) rfl (by kernel_rfl) (by kernel_rfl) (by kernel_rfl) (fun _ _ _ h => h) (Or.inl ⟨by rfl, fun w hSw => by (try dsimp only at hSw); go_simp⟩) (by assumption) ?_
        try simp only [Act.put, List.setIfInBounds_toArray, List.set_cons_zero, List.set_cons_succ]
        refine wpAnyH_ready (rs := [15]) (by kernel_rfl) (by simp) ?_
        refine AllReadyH.cons (o := ⟨some 65, _, _, _, _, _⟩) rfl (fun K hK => ?_) AllReadyH.nil
        go_simp
        go_at_call 15
        (with_reducible refine (Count_calls g n d c' wl' _ ST6.out.o).mono ?_); rintro e w7 ⟨rfl, rfl⟩
        dsimp only
        refine hK.out _ _ (And.intro e6 (And.intro r2 r3)) (fun hS15 => ?_)
        clear hK K
        try simp only [Act.put, List.setIfInBounds_toArray, List.set_cons_zero, List.set_cons_succ]
        refine wpAnyH_take (i := 20) (oi := ⟨some 70, _, _, _, _, _⟩) (v := (.bool false)) rfl (by kernel_rfl) (by kernel_rfl) (by kernel_rfl) (fun _ _ _ h => h) (Or.inl ⟨by rfl, fun w hSw => by (try dsimp only at hSw); go_simp⟩) (by assumption) ?_
        try simp only [Act.put, List.setIfInBounds_toArray, List.set_cons_zero, List.set_cons_succ]
        refine wpAnyH_take (i := 21) (oi := ⟨some 71, _, _, _, _, _⟩) (v := (.bool false)) rfl (by kernel_rfl) (by kernel_rfl) (by kernel_rfl) (fun _ _ _ h => h) (Or.inl ⟨by rfl, fun w hSw => by (try dsimp only at hSw); go_simp⟩) (by assumption) ?_
        try simp only [Act.put, List.setIfInBounds_toArray, List.set_cons_zero, List.set_cons_succ]
        refine wpAnyH_take (i := 22) (oi := ⟨some 72, _, _, _, _, _⟩) (v := (.bool false)) rfl (by kernel_rfl) (by kernel_rfl) (by kernel_rfl) (fun _ _ _ h => h) (Or.inl ⟨by rfl, fun w hSw => by (try dsimp only at hSw); go_simp⟩) (by assumption) ?_
        try simp only [Act.put, List.setIfInBounds_toArray, List.set_cons_zero, List.set_cons_succ]
        refine wpAnyH_take (i := 23) (oi := ⟨some 73, _, _, _, _, _⟩) (v := (.pointer (some ⟨g, 0, none⟩))) rfl (by kernel_rfl) (by kernel_rfl) (by kernel_rfl) (fun _ _ _ h => h) (Or.inl ⟨by rfl, fun w hSw => by (try dsimp only at hSw); go_simp⟩) (by assumption) ?_
        try simp only [Act.put, List.setIfInBounds_toArray, List.set_cons_zero, List.set_cons_succ]
        refine wpAnyH_take (i := 25) (oi := ⟨some 75, _, _, _, _, _⟩) (v := (.pointer (some ⟨k, 0, none⟩))) rfl (by kernel_rfl) (by kernel_rfl) (by kernel_rfl) (fun _ _ _ h => h) (Or.inl ⟨by rfl, fun w hSw => by (try dsimp only at hSw); go_simp⟩) (by assumption) ?_
        try simp only [Act.put, List.setIfInBounds_toArray, List.set_cons_zero, List.set_cons_succ]
        refine wpAnyH_take (i := 26) (oi := ⟨some 76, _, _, _, _, _⟩) (v := (.pointer (some ⟨k, 0, none⟩))) rfl (by kernel_rfl) (by kernel_rfl) (by kernel_rfl) (fun _ _ _ h => h) (Or.inl ⟨by rfl, fun w hSw => by (try dsimp only at hSw); go_simp⟩) (by assumption) ?_
        try simp only [Act.put, List.setIfInBounds_toArray, List.set_cons_zero, List.set_cons_succ]
        refine wpAnyH_take (i := 27) (oi := ⟨some 77, _, _, _, _, _⟩) (v := (.pointer (some ⟨k, 3, none⟩))) rfl (by kernel_rfl) (by kernel_rfl) (by kernel_rfl) (fun _ _ _ h => h) (Or.inl ⟨by rfl, fun w hSw => by (try dsimp only at hSw); go_simp⟩) (by assumption) ?_
        try simp only [Act.put, List.setIfInBounds_toArray, List.set_cons_zero, List.set_cons_succ]
        refine wpAnyH_take (i := 28) (oi := ⟨some 78, _, _, _, _, _⟩) (v := (.bool wl')) rfl (by kernel_rfl) (by kernel_rfl) (by kernel_rfl) (fun _ _ _ h => h) (Or.inl ⟨by rfl, fun w hSw => by (try dsimp only at hSw); go_simp⟩) (by assumption) ?_
        try simp only [Act.put, List.setIfInBounds_toArray, List.set_cons_zero, List.set_cons_succ]
        refine wpAnyH_ready (rs := [24]) (by kernel_rfl) (by simp) ?_
        refine AllReadyH.cons (o := ⟨some 74, _, _, _, _, _⟩) rfl (fun K hK => ?_) AllReadyH.nil
        go_simp
        go_at_call 16
        (with_reducible refine (Steady_calls g n d c' wl' _ ST6.out.o).mono ?_); rintro e w7 ⟨rfl, rfl⟩
        dsimp only
        refine hK.out _ _ (And.intro e6 (And.intro r2 r3)) (fun hS24 => ?_)
        clear hK K
        try simp only [Act.put, List.setIfInBounds_toArray, List.set_cons_zero, List.set_cons_succ]
        refine wpAnyH_take (i := 29) (oi := ⟨some 79, _, _, _, _, _⟩) (v := (.bool false)) rfl (by kernel_rfl) (by kernel_rfl) (by kernel_rfl) (fun _ _ _ h => h) (Or.inl ⟨by rfl, fun w hSw => by (try dsimp only at hSw); go_simp⟩) (by assumption) ?_
        try simp only [Act.put, List.setIfInBounds_toArray, List.set_cons_zero, List.set_cons_succ]
        refine wpAnyH_take (i := 30) (oi := ⟨some 80, _, _, _, _, _⟩) (v := (.bool false)) rfl (by kernel_rfl) (by kernel_rfl) (by kernel_rfl) (fun _ _ _ h => h) (Or.inl ⟨by rfl, fun w hSw => by (try dsimp only at hSw); go_simp⟩) (by assumption) ?_
        try simp only [Act.put, List.setIfInBounds_toArray, List.set_cons_zero, List.set_cons_succ]
        refine wpAnyH_done (by kernel_rfl) ?_ _
        go_wp2
        go_roundg k1
        case measure => omega
        case rel => exact ⟨i + 1, c', wl', by rw [hi1], HI', HC', ST6⟩
      · have u2 : decide (i < 100) = false := decide_eq_false t2
        clear t1 t2
        go_wp2_with fail
        (with_reducible refine (bellbuoylaw16_live.calls true _ rfl).mono ?_); rintro e w5 ⟨rfl, hb⟩
        go_wp2_with fail
        go_ret
        exact ⟨rfl, below_step ST.out.b hb⟩
    · have u1 : decide (i < (len : Int)) = false := decide_eq_false t1
      clear t1
      go_wp2_with fail
      (with_reducible refine (bellbuoylaw16_live.calls true _ rfl).mono ?_); rintro e w5 ⟨rfl, hb⟩
      go_wp2_with fail
      go_ret
      exact ⟨rfl, below_step ST.out.b hb⟩
theorem OscCounts_walk (a0_0 a0_1 : Int) (A : Option Addr) (len cap : Nat) (z : List Int) (w : World) (w0 : (Lit.int .i64 a0_0).wf = true) (w1 : (Lit.int .i64 a0_1).wf = true)
    (h : (A = none ∧ len = 0 ∧ cap = 0 ∧ z = []) ∨ ∃ x, A = some x ∧ len ≤ cap ∧ cap ≤ maxLen ∧ z.length = cap ∧ (∀ i, i < z.length → w.cell? (x.add i) = some (.int .i64 (z.getD i 0))) ∧ ∀ n ∈ z, (Lit.int .i64 n).wf = true) (y : len * 8 ≤ 140737488351232) :
    Calls Try.prog 3 #[.agg #[.int .i64 a0_0, .int .i64 a0_1], .slice A len cap] w fun e w' => e = .returned (.bool true) ∧ Below w.heap.size w w' := by
  simp only [Lit.wf, Bool.and_eq_true, decide_eq_true_eq] at w0
  have b0 : -9223372036854775808 ≤ a0_0 := w0.1
  have b1 : a0_0 ≤ 9223372036854775807 := w0.2
  cases hr : rightB a0_0 a0_1 with
  | false => exact Counts_no a0_0 a0_1 A len cap w b0 b1 hr
  | true =>
    have hr' := of_decide_eq_true hr
    exact Counts_yes a0_0 a0_1 A len cap (fun i => z.getD i 0) w hr'.1 hr'.2.1 hr'.2.2.1 hr'.2.2.2 (by omega) (nums_row h).1
end Go.Proofs.Ytdlpmbjnplnjnaa.P
