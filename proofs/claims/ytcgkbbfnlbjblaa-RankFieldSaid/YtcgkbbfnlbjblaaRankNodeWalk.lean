/- Whatever a node hears, tick by tick: by the program and the document: the walk. Condition: the numbers are of their kinds. -/
import Derived.Test.YtcgkbbfnlbjblaaRankNodes
namespace Go.Proofs.Ytcgkbbfnlbjblaa.P
open Go.RowKit Go.Proofs.YtcgkbbfnlbjblaaW.PrintWords Go.Proofs.YtcgkbbfnlbjblaaW.PrintLast Go.Proofs.YtcgkbbfnlbjblaaW.PrintMore
set_option linter.unusedVariables false
set_option linter.unusedSimpArgs false
theorem wpAnyH_weaken {P : Program} {ops : Array Oper} {Q : Exit → Act → World → Prop} {md : Region.Mode} {S S' : World → Prop} (h : ∀ w, S' w → S w) :
    ∀ (fuel : Nat) (listed : Array Bool) (a : Act) (w : World), wpAnyH P md ops Q S' fuel listed a w → wpAnyH P md ops Q S fuel listed a w
  | 0, _, _, _, hw => hw
  | fuel + 1, listed, a, w, hw => ⟨hw.1, fun i hi => wpOp_mono (fun a' w' hh => ⟨h w' hh.1, wpAnyH_weaken h fuel _ a' w' hh.2⟩) (hw.2 i hi)⟩
theorem C_ints {w : World} {x : Addr} {m : Nat} {zs : List Int} (hz : zs.length = m) (hm : m ≤ maxLen) (hc : ∀ i, i < m → w.cell? (x.add i) = some (.int .i64 (zs.getD i 0))) : Kd.C (Kd.int .i64) w (some x) m zs :=
  ⟨hz, hm, fun _ => ⟨x, rfl, fun j q hj => ⟨[.int .i64 q], rfl, rfl, fun i u hi => by
    cases i with
    | succ i => cases hi
    | zero =>
      cases hi
      have hj2 : j < m := by rw [← hz]; exact (List.getElem?_eq_some_iff.1 hj).1
      have := hc j hj2
      rw [List.getD_eq_getElem?_getD, hj] at this
      simpa [Kd.int, Kd.scalar] using this⟩⟩⟩
def Rows2 (w : World) (A : Option Addr) (len : Nat) : Prop := ∀ i, i < len → ∃ ad bb m c zs, A = some ad ∧ w.cell? (ad.add i) = some (.slice bb m c) ∧ Kd.C (Kd.int .i64) w bb m zs ∧ zs.length = m ∧ m ≤ c ∧ c ≤ maxLen ∧ (0 < m → bb.isSome = true)
theorem C_ten {w : World} {A : Option Addr} {m : Nat} {zs : List Int} (h : Kd.C (Kd.int .i64) w A m zs) (hz : zs.length = m) (h10 : 10 ≤ m) : Kd.C (Kd.int .i64) w A 10 (zs.take 10) := by
  subst hz
  have := Kd.C_take h h10
  rwa [List.length_take, Nat.min_eq_left h10] at this
structure SN (w W : World) (gn gm : Nat) (b s p r : Int) (x y : Nd) : Prop where
  n : NdAt W gn b s p r x
  m : RAt W gm b s p r y
  k : W.heap[w.heap.size]? = some (.cells #[.int .i64 b, .int .i64 s, .int .i64 p] 23 (0, 0))
  B : Below w.heap.size w W
  hn : w.heap.size < gn
  hm : w.heap.size < gm
section
variable {w W W' : World} {gn gm : Nat} {b s p r : Int} {x y z : Nd}
theorem SN.below (h : SN w W gn gm b s p r x y) (hb : Below W.heap.size W W') : SN w W' gn gm b s p r x y := ⟨blk_below h.n hb, blk_below h.m hb, blk_below h.k hb, below_step h.B hb, h.hn, h.hm⟩
theorem SN.drew (h : SN w W gn gm b s p r x y) : SN w W.drew gn gm b s p r x y := h.below (below_drew1 (Below.refl _ _))
theorem SN.drewN (h : SN w W gn gm b s p r x y) (k : Nat) : SN w (W.drewN k) gn gm b s p r x y := h.below (Drawn0.below ⟨⟨k, rfl⟩⟩)
theorem SN.ne (h : SN w W gn gm b s p r x y) : gm ≠ gn := fun e => by
  have a := h.n
  have c := h.m
  rw [e] at c
  exact absurd (blk_type a c) (by decide)
theorem SN.tn (h : SN w W gn gm b s p r x y) (hz : NdAt W' gn b s p r z) (hc : Ch (fun k => k = gn) W W') : SN w W' gn gm b s p r z y :=
  ⟨hz, hc.blk h.m h.ne, hc.blk h.k (by have := h.hn; omega), h.B.trans (hc.below h.B.size (fun k e => by have := h.hn; omega)), h.hn, h.hm⟩
theorem SN.tm (h : SN w W gn gm b s p r x y) (hz : RAt W' gm b s p r z) (hc : Ch (fun k => k = gm) W W') : SN w W' gn gm b s p r x z :=
  ⟨hc.blk h.n (Ne.symm h.ne), hz, hc.blk h.k (by have := h.hm; omega), h.B.trans (hc.below h.B.size (fun k e => by have := h.hm; omega)), h.hn, h.hm⟩
theorem SN.box (h : SN w W gn gm b s p r x y) : W.cell? ⟨w.heap.size, 0, none⟩ = some (.int .i64 b) ∧ W.cell? ⟨w.heap.size, 1, none⟩ = some (.int .i64 s) ∧ W.cell? ⟨w.heap.size, 2, none⟩ = some (.int .i64 p) := ⟨(blk_cell h.k 0).trans rfl, (blk_cell h.k 1).trans rfl, (blk_cell h.k 2).trans rfl⟩
theorem SN.mcells (h : SN w W gn gm b s p r x y) : W.cell? ⟨gm, 4, none⟩ = some (.bool y.m) ∧ W.cell? ⟨gm, 5, none⟩ = some (.int .i64 y.i) := ⟨h.m.cells.2.2.2.2.1, h.m.cells.2.2.2.2.2.1⟩
end
set_option maxHeartbeats 4000000 in
set_option maxRecDepth 100000 in
theorem Node_no (b s p r : Int) (A : Option Addr) (len cap : Nat) (w : World) (h : (rightB b s p && rankB r) = false) :
    Calls Try.prog 4 #[.agg #[.int .i64 b, .int .i64 s, .int .i64 p], .int .i64 r, .slice A len cap] w fun e w' => e = .returned (.bool true) ∧ Below w.heap.size w w' := by
  have H := Aside0.mk h
  clear h
  have hu23 := Try.underlying23
  have BK0 : Aside0 ((w.alloc (.cells #[.int .i64 b, .int .i64 s, .int .i64 p] 23)).heap[w.heap.size]? = some (.cells #[.int .i64 b, .int .i64 s, .int .i64 p] 23 (0, 0))) := ⟨blk_new _ _⟩
  have B0 : Aside0 (Below w.heap.size w (w.alloc (.cells #[.int .i64 b, .int .i64 s, .int .i64 p] 23))) := ⟨below_alloc (Below.refl _ _) _⟩
  have c0 := (blk_cell BK0.out 0).trans rfl
  have c1 := (blk_cell BK0.out 1).trans rfl
  have c2 := (blk_cell BK0.out 2).trans rfl
  go_enter Try.func4, Try.ntmps4
  go_wp2_with fail
  (with_reducible refine (New_no b s p r _ H.out).mono ?_); rintro e w1 ⟨rfl, hb⟩
  have BK1 : Aside0 (w1.heap[w.heap.size]? = some (.cells #[.int .i64 b, .int .i64 s, .int .i64 p] 23 (0, 0))) := ⟨blk_below BK0.out hb⟩
  have B1 : Aside0 (Below w.heap.size w w1) := ⟨below_step B0.out hb⟩
  clear hb c0 c1 c2 BK0 B0
  have c0 := (blk_cell BK1.out 0).trans rfl
  have c1 := (blk_cell BK1.out 1).trans rfl
  have c2 := (blk_cell BK1.out 2).trans rfl
  go_wp2_with fail
  (with_reducible refine (bellbuoylaw21_plain.calls b s p b s p _ rfl).mono ?_); rintro e w2 ⟨rfl, hb⟩
  have B2 : Aside0 (Below w.heap.size w w2) := ⟨below_step B1.out hb⟩
  clear hb c0 c1 c2 BK1 B1
  go_wp2_with fail
  (with_reducible refine (RNew_no b s p r _ H.out).mono ?_); rintro e w3 ⟨rfl, hb⟩
  have B3 : Aside0 (Below w.heap.size w w3) := ⟨below_step B2.out hb⟩
  clear hb B2
  go_wp2_with fail
  (with_reducible refine (live_calls _).mono ?_); rintro e w4 ⟨rfl, hb⟩
  go_wp2_with fail
  go_ret
  exact ⟨rfl, below_step B3.out hb⟩
set_option maxHeartbeats 16000000 in
set_option maxRecDepth 100000 in
theorem Node_yes (b s p r : Int) (A : Option Addr) (len cap : Nat) (w : World) (h1 : rightB b s p = true) (h2 : rankB r = true) (hrow : Rows2 w A len) (hlen : len ≤ maxLen) :
    Calls Try.prog 4 #[.agg #[.int .i64 b, .int .i64 s, .int .i64 p], .int .i64 r, .slice A len cap] w fun e w' => e = .returned (.bool true) ∧ Below w.heap.size w w' := by
  have H1 := Aside0.mk h1
  have H2 := Aside0.mk h2
  have HP : Aside0 (1 ≤ p ∧ p ≤ 1000) := ⟨(right_of h1).1, (right_of h1).2.1⟩
  have HW := Aside0.mk (RefWait_eq b s p r)
  have HROW := Aside0.mk hrow
  have HLEN := Aside0.mk hlen
  clear h1 h2 hrow hlen
  have hu23 := Try.underlying23
  have hu47 := Try.underlying47
  have BK0 : Aside0 ((w.alloc (.cells #[.int .i64 b, .int .i64 s, .int .i64 p] 23)).heap[w.heap.size]? = some (.cells #[.int .i64 b, .int .i64 s, .int .i64 p] 23 (0, 0))) := ⟨blk_new _ _⟩
  have B0 : Aside0 (Below w.heap.size w (w.alloc (.cells #[.int .i64 b, .int .i64 s, .int .i64 p] 23))) := ⟨below_alloc (Below.refl _ _) _⟩
  have c0 := (blk_cell BK0.out 0).trans rfl
  have c1 := (blk_cell BK0.out 1).trans rfl
  have c2 := (blk_cell BK0.out 2).trans rfl
  go_enter Try.func4, Try.ntmps4
  go_wp2_with fail
  (with_reducible refine (New_yes b s p r _ H1.out H2.out).mono ?_); rintro e w1 ⟨gn, rfl, hgn, hn, hb⟩
  have BK1 : Aside0 (w1.heap[w.heap.size]? = some (.cells #[.int .i64 b, .int .i64 s, .int .i64 p] 23 (0, 0))) := ⟨blk_below BK0.out hb⟩
  have B1 : Aside0 (Below w.heap.size w w1) := ⟨below_step B0.out hb⟩
  have GN : Aside0 (w.heap.size < gn) := ⟨by have := hgn; simp at this; omega⟩
  have N1 := Aside0.mk hn
  clear hb c0 c1 c2 BK0 B0 hgn hn
  have c0 := (blk_cell BK1.out 0).trans rfl
  have c1 := (blk_cell BK1.out 1).trans rfl
  have c2 := (blk_cell BK1.out 2).trans rfl
  go_wp2_with fail
  (with_reducible refine (bellbuoylaw21_plain.calls b s p b s p _ rfl).mono ?_); rintro e w2 ⟨rfl, hb⟩
  have BK2 : Aside0 (w2.heap[w.heap.size]? = some (.cells #[.int .i64 b, .int .i64 s, .int .i64 p] 23 (0, 0))) := ⟨blk_below BK1.out hb⟩
  have B2 : Aside0 (Below w.heap.size w w2) := ⟨below_step B1.out hb⟩
  have N2 : Aside0 (NdAt w2 gn b s p r ⟨false, 0, 0⟩) := ⟨blk_below N1.out hb⟩
  have S2 : Aside0 (w.heap.size < w2.heap.size) := ⟨blk_lt BK2.out⟩
  clear hb c0 c1 c2 BK1 B1 N1
  go_wp2_with fail
  (with_reducible refine (RNew_yes b s p r _ H1.out H2.out).mono ?_); rintro e w3 ⟨gm, rfl, hgm, hm, hb⟩
  have ST0 : Aside0 (SN w w3 gn gm b s p r ⟨false, 0, 0⟩ ⟨false, 0, 0⟩) := ⟨⟨blk_below N2.out hb, hm, blk_below BK2.out hb, below_step B2.out hb, GN.out, by have := S2.out; omega⟩⟩
  clear hb BK2 B2 N2 S2 hgm hm GN
  go_wp2_with fail
  go_loopg [11] 200 (fun kq v11 w' => ∃ (i : Int) (m0 : Bool) (i0 q0 : Int), v11 = .int .i64 i ∧ Aside0 (0 ≤ i ∧ i + kq = 200) ∧ Aside0 (NdOk (waitV b s p r) p ⟨m0, i0, q0⟩) ∧ Aside0 (SN w w' gn gm b s p r ⟨m0, i0, q0⟩ ⟨m0, i0, q0⟩))
  case atStart => exact ⟨0, false, 0, 0, rfl, ⟨by omega⟩, ⟨⟨Int.le_refl 0, (wait_range b s p r).1, Int.le_refl 0, by have := HP.out.1; show (0 : Int) < p; omega⟩⟩, ST0⟩
  case round =>
    obtain ⟨i, m0, i0, q0, rfl, HI, OK, ST⟩ := hrel
    clear ST0
    by_cases t1 : i < (len : Int)
    · have u1 : decide (i < (len : Int)) = true := decide_eq_true t1
      by_cases t2 : i < 200
      · have u2 : decide (i < 200) = true := decide_eq_true t2
        obtain ⟨k1, rfl⟩ : ∃ k1, gk = k1 + 1 := ⟨gk - 1, by have := HI.out; omega⟩
        have hlt : i.toNat < len := by have := HI.out; omega
        obtain ⟨ad, bb, mm, cc, zs, rfl, hcell0, hC, hz, hmc, hcm, hbb⟩ := HROW.out i.toNat hlt
        have hcell := pw_cell_below ST.out.B hcell0
        have HI' : Aside0 (0 ≤ i + 1 ∧ i + 1 + k1 = 200) := ⟨by have := HI.out; omega⟩
        have hi1 : wrap64 (i + 1) = i + 1 := i64w _ (by have := HI.out; omega) (by have := HI.out; omega)
        have p0 : (0 ≤ i) = True := eq_true HI.out.1
        have q1 : (i < (len : Int)) = True := eq_true t1
        by_cases h10 : 10 < mm
        · have u3 : decide ((mm : Int) > 10) = true := decide_eq_true (by omega)
          have u4 : decide ((10 : Int) < (mm : Int)) = true := decide_eq_true (by omega)
          have u5 : decide (10 < mm) = true := decide_eq_true h10
          have v1 : ((10 : Int) ≤ (cc : Int)) = True := eq_true (by omega)
          have v2 : (10 ≤ cc) = True := eq_true (by omega)
          obtain ⟨ab, rfl⟩ : ∃ ab, bb = some ab := Option.isSome_iff_exists.1 (hbb (by omega))
          have h10 : 10 ≤ mm := by omega
          have HC : Aside0 (Kd.C (Kd.int .i64) w (some ab) 10 (zs.take 10)) := ⟨C_ten hC hz h10⟩
          have HL : Aside0 (((zs.take 10)).length = 10 ∧ ((zs.take 10)).length ≤ cc) := ⟨by rw [List.length_take]; omega, by rw [List.length_take]; omega⟩
          obtain ⟨tt, m', i', q', hs⟩ : ∃ tt m' i' q', tickN (waitV b s p r) p r (zs.take 10) ⟨m0, i0, q0⟩ = (tt, ⟨m', i', q'⟩) := ⟨_, _, _, _, rfl⟩
          have HS := Aside0.mk hs
          have OK' : Aside0 (NdOk (waitV b s p r) p ⟨m', i', q'⟩) := ⟨by have := tickN_ok (r := r) (zs := (zs.take 10)) OK.out (wait_range b s p r).1 HP.out.1; rw [hs] at this; exact this⟩
          have hne : (tt != tt) = false := by simp
          have hne2 : (m' != m') = false := by simp
          have hne3 : (i' != i') = false := by simp
          have hne4 : (r != r) = false := by simp
          have hne5 : decide (i' > waitV b s p r) = false := decide_eq_false (by have : i' ≤ waitV b s p r := OK'.out.2.1; omega)
          have hne6 : decide (waitV b s p r < i') = false := decide_eq_false (by have : i' ≤ waitV b s p r := OK'.out.2.1; omega)
          clear hs
          clear hC hz hmc hcm hbb h10 hcell0 hlt t1 t2
          go_wp2_with fail
          refine wp_region_held_drew (S := (fun w' : World => w'.cell? ⟨w.heap.size, 0, none⟩ = some (.int .i64 b) ∧ w'.cell? ⟨w.heap.size, 1, none⟩ = some (.int .i64 s) ∧ w'.cell? ⟨w.heap.size, 2, none⟩ = some (.int .i64 p))) (by kernel_rfl) ST.out.box (fun hS0 => ?_)
          refine wpAnyH_take (i := 0) (oi := ⟨some 58, _, _, _, _, _⟩) (v := (.pointer (some ⟨gn, 0, none⟩))) rfl (by kernel_rfl) (by kernel_rfl) (by kernel_rfl) (fun _ _ _ h => h) (Or.inl ⟨by rfl, fun w hSw => by (try dsimp only at hSw); go_simp⟩) (by assumption) ?_
          try simp only [Act.put, List.setIfInBounds_toArray, List.set_cons_zero, List.set_cons_succ]
          refine wpAnyH_take (i := 1) (oi := ⟨some 59, _, _, _, _, _⟩) (v := (.slice (some ab) 10 cc)) rfl (by kernel_rfl) (by kernel_rfl) (by kernel_rfl) (fun _ _ _ h => h) (Or.inl ⟨by rfl, fun w hSw => by (try dsimp only at hSw); go_simp⟩) (by assumption) ?_
          try simp only [Act.put, List.setIfInBounds_toArray, List.set_cons_zero, List.set_cons_succ]
          refine wpAnyH_take (i := 3) (oi := ⟨some 61, _, _, _, _, _⟩) (v := (.pointer (some ⟨gm, 0, none⟩))) rfl (by kernel_rfl) (by kernel_rfl) (by kernel_rfl) (fun _ _ _ h => h) (Or.inl ⟨by rfl, fun w hSw => by (try dsimp only at hSw); go_simp⟩) (by assumption) ?_
          try simp only [Act.put, List.setIfInBounds_toArray, List.set_cons_zero, List.set_cons_succ]
          refine wpAnyH_take (i := 4) (oi := ⟨some 62, _, _, _, _, _⟩) (v := (.slice (some ab) 10 cc)) rfl (by kernel_rfl) (by kernel_rfl) (by kernel_rfl) (fun _ _ _ h => h) (Or.inl ⟨by rfl, fun w hSw => by (try dsimp only at hSw); go_simp⟩) (by assumption) ?_
          try simp only [Act.put, List.setIfInBounds_toArray, List.set_cons_zero, List.set_cons_succ]
          refine wpAnyH_ready (rs := [2]) (by kernel_rfl) (by simp) ?_
          refine AllReadyH.cons (o := ⟨some 60, _, _, _, _, _⟩) rfl (fun K hK => ?_) AllReadyH.nil
          go_simp
          go_at_call 18
          (with_reducible refine (PTick_calls gn b s p r ⟨m0, i0, q0⟩ _ _ _ (zs.take 10) _ ST.out.drew.n HL.out.1 HL.out.2 (by rw [HL.out.1]; exact Kd.C_below HC.out ST.out.drew.B) OK.out HP.out.1 HP.out.2).mono ?_); rintro e w5 ⟨rfl, hn5, hc5⟩; have ST5 := Aside0.mk (ST.out.drew.tn hn5 hc5); rw [HS.out] at ST5; clear hn5 hc5
          dsimp only
          refine hK.out _ _ ST5.out.box (fun hS2 => ?_)
          clear hK K
          try simp only [Act.put, List.setIfInBounds_toArray, List.set_cons_zero, List.set_cons_succ]
          refine wpAnyH_ready (rs := [5]) (by kernel_rfl) (by simp) ?_
          refine AllReadyH.cons (o := ⟨some 63, _, _, _, _, _⟩) rfl (fun K hK => ?_) AllReadyH.nil
          go_simp
          go_at_call 19
          (with_reducible refine (RTick_calls gm b s p r ⟨m0, i0, q0⟩ _ _ _ (zs.take 10) _ ST5.out.m HL.out.1 HL.out.2 (by rw [HL.out.1]; exact Kd.C_below HC.out ST5.out.B) OK.out HP.out.2).mono ?_); rintro e w6 ⟨rfl, hn6, hc6⟩; have ST6 := Aside0.mk (ST5.out.tm hn6 hc6); rw [HS.out] at ST6; clear hn6 hc6
          dsimp only
          refine hK.out _ _ ST6.out.box (fun hS5 => ?_)
          clear hK K
          try simp only [Act.put, List.setIfInBounds_toArray, List.set_cons_zero, List.set_cons_succ]
          rw [HS.out]
          refine wpAnyH_weaken (S' := (fun w' : World => (w'.cell? ⟨w.heap.size, 0, none⟩ = some (.int .i64 b) ∧ w'.cell? ⟨w.heap.size, 1, none⟩ = some (.int .i64 s) ∧ w'.cell? ⟨w.heap.size, 2, none⟩ = some (.int .i64 p)) ∧ w'.cell? ⟨gm, 4, none⟩ = some (.bool m') ∧ w'.cell? ⟨gm, 5, none⟩ = some (.int .i64 i'))) (fun _ h => h.1) _ _ _ _ ?_
          have hSx := (And.intro ST6.out.box ST6.out.mcells)
          refine wpAnyH_take (i := 6) (oi := ⟨some 64, _, _, _, _, _⟩) (v := (.bool false)) rfl (by kernel_rfl) (by kernel_rfl) (by kernel_rfl) (fun _ _ _ h => h) (Or.inl ⟨by rfl, fun w hSw => by (try dsimp only at hSw); go_simp⟩) (by assumption) ?_
          try simp only [Act.put, List.setIfInBounds_toArray, List.set_cons_zero, List.set_cons_succ]
          refine wpAnyH_take (i := 7) (oi := ⟨some 65, _, _, _, _, _⟩) (v := (.bool false)) rfl (by kernel_rfl) (by kernel_rfl) (by kernel_rfl) (fun _ _ _ h => h) (Or.inl ⟨by rfl, fun w hSw => by (try dsimp only at hSw); go_simp⟩) (by assumption) ?_
          try simp only [Act.put, List.setIfInBounds_toArray, List.set_cons_zero, List.set_cons_succ]
          refine wpAnyH_take (i := 8) (oi := ⟨some 66, _, _, _, _, _⟩) (v := (.pointer (some ⟨gn, 0, none⟩))) rfl (by kernel_rfl) (by kernel_rfl) (by kernel_rfl) (fun _ _ _ h => h) (Or.inl ⟨by rfl, fun w hSw => by (try dsimp only at hSw); go_simp⟩) (by assumption) ?_
          try simp only [Act.put, List.setIfInBounds_toArray, List.set_cons_zero, List.set_cons_succ]
          refine wpAnyH_take (i := 10) (oi := ⟨some 68, _, _, _, _, _⟩) (v := (.pointer (some ⟨gm, 0, none⟩))) rfl (by kernel_rfl) (by kernel_rfl) (by kernel_rfl) (fun _ _ _ h => h) (Or.inl ⟨by rfl, fun w hSw => by (try dsimp only at hSw); go_simp⟩) (by assumption) ?_
          try simp only [Act.put, List.setIfInBounds_toArray, List.set_cons_zero, List.set_cons_succ]
          refine wpAnyH_take (i := 11) (oi := ⟨some 69, _, _, _, _, _⟩) (v := (.pointer (some ⟨gm, 0, none⟩))) rfl (by kernel_rfl) (by kernel_rfl) (by kernel_rfl) (fun _ _ _ h => h) (Or.inl ⟨by rfl, fun w hSw => by (try dsimp only at hSw); go_simp⟩) (by assumption) ?_
          try simp only [Act.put, List.setIfInBounds_toArray, List.set_cons_zero, List.set_cons_succ]
          refine wpAnyH_take (i := 12) (oi := ⟨some 70, _, _, _, _, _⟩) (v := (.pointer (some ⟨gm, 4, none⟩))) rfl (by kernel_rfl) (by kernel_rfl) (by kernel_rfl) (fun _ _ _ h => h) (Or.inl ⟨by rfl, fun w hSw => by (try dsimp only at hSw); go_simp⟩) (by assumption) ?_
          try simp only [Act.put, List.setIfInBounds_toArray, List.set_cons_zero, List.set_cons_succ]
          refine wpAnyH_take (i := 13) (oi := ⟨some 71, _, _, _, _, _⟩) (v := (.bool m')) rfl (by kernel_rfl) (by kernel_rfl) (by kernel_rfl) (fun _ _ _ h => h) (Or.inl ⟨by rfl, fun w hSw => by (try dsimp only at hSw); go_simp⟩) (by assumption) ?_
          try simp only [Act.put, List.setIfInBounds_toArray, List.set_cons_zero, List.set_cons_succ]
          refine wpAnyH_ready (rs := [9]) (by kernel_rfl) (by simp) ?_
          refine AllReadyH.cons (o := ⟨some 67, _, _, _, _, _⟩) rfl (fun K hK => ?_) AllReadyH.nil
          go_simp
          go_at_call 20
          (with_reducible refine (Master_calls gn b s p r ⟨m', i', q'⟩ _ ST6.out.n).mono ?_); rintro e w7 ⟨rfl, hd⟩; have ST7 := Aside0.mk (ST6.out.below (Drawn0.below hd)); clear hd
          dsimp only
          refine hK.out _ _ (And.intro ST7.out.box ST7.out.mcells) (fun hS9 => ?_)
          clear hK K
          try simp only [Act.put, List.setIfInBounds_toArray, List.set_cons_zero, List.set_cons_succ]
          refine wpAnyH_take (i := 14) (oi := ⟨some 72, _, _, _, _, _⟩) (v := (.bool false)) rfl (by kernel_rfl) (by kernel_rfl) (by kernel_rfl) (fun _ _ _ h => h) (Or.inl ⟨by rfl, fun w hSw => by (try dsimp only at hSw); go_simp⟩) (by assumption) ?_
          try simp only [Act.put, List.setIfInBounds_toArray, List.set_cons_zero, List.set_cons_succ]
          refine wpAnyH_take (i := 15) (oi := ⟨some 73, _, _, _, _, _⟩) (v := (.bool false)) rfl (by kernel_rfl) (by kernel_rfl) (by kernel_rfl) (fun _ _ _ h => h) (Or.inl ⟨by rfl, fun w hSw => by (try dsimp only at hSw); go_simp⟩) (by assumption) ?_
          try simp only [Act.put, List.setIfInBounds_toArray, List.set_cons_zero, List.set_cons_succ]
          refine wpAnyH_take (i := 16) (oi := ⟨some 74, _, _, _, _, _⟩) (v := (.bool false)) rfl (by kernel_rfl) (by kernel_rfl) (by kernel_rfl) (fun _ _ _ h => h) (Or.inl ⟨by rfl, fun w hSw => by (try dsimp only at hSw); go_simp⟩) (by assumption) ?_
          try simp only [Act.put, List.setIfInBounds_toArray, List.set_cons_zero, List.set_cons_succ]
          refine wpAnyH_take (i := 17) (oi := ⟨some 75, _, _, _, _, _⟩) (v := (.pointer (some ⟨gn, 0, none⟩))) rfl (by kernel_rfl) (by kernel_rfl) (by kernel_rfl) (fun _ _ _ h => h) (Or.inl ⟨by rfl, fun w hSw => by (try dsimp only at hSw); go_simp⟩) (by assumption) ?_
          try simp only [Act.put, List.setIfInBounds_toArray, List.set_cons_zero, List.set_cons_succ]
          refine wpAnyH_take (i := 19) (oi := ⟨some 77, _, _, _, _, _⟩) (v := (.pointer (some ⟨gm, 0, none⟩))) rfl (by kernel_rfl) (by kernel_rfl) (by kernel_rfl) (fun _ _ _ h => h) (Or.inl ⟨by rfl, fun w hSw => by (try dsimp only at hSw); go_simp⟩) (by assumption) ?_
          try simp only [Act.put, List.setIfInBounds_toArray, List.set_cons_zero, List.set_cons_succ]
          refine wpAnyH_take (i := 20) (oi := ⟨some 78, _, _, _, _, _⟩) (v := (.pointer (some ⟨gm, 0, none⟩))) rfl (by kernel_rfl) (by kernel_rfl) (by kernel_rfl) (fun _ _ _ h => h) (Or.inl ⟨by rfl, fun w hSw => by (try dsimp only at hSw); go_simp⟩) (by assumption) ?_
          try simp only [Act.put, List.setIfInBounds_toArray, List.set_cons_zero, List.set_cons_succ]
          refine wpAnyH_take (i := 21) (oi := ⟨some 79, _, _, _, _, _⟩) (v := (.pointer (some ⟨gm, 5, none⟩))) rfl (by kernel_rfl) (by kernel_rfl) (by kernel_rfl) (fun _ _ _ h => h) (Or.inl ⟨by rfl, fun w hSw => by (try dsimp only at hSw); go_simp⟩) (by assumption) ?_
          try simp only [Act.put, List.setIfInBounds_toArray, List.set_cons_zero, List.set_cons_succ]
          refine wpAnyH_take (i := 22) (oi := ⟨some 80, _, _, _, _, _⟩) (v := (.int .i64 i')) rfl (by kernel_rfl) (by kernel_rfl) (by kernel_rfl) (fun _ _ _ h => h) (Or.inl ⟨by rfl, fun w hSw => by (try dsimp only at hSw); go_simp⟩) (by assumption) ?_
          try simp only [Act.put, List.setIfInBounds_toArray, List.set_cons_zero, List.set_cons_succ]
          refine wpAnyH_ready (rs := [18]) (by kernel_rfl) (by simp) ?_
          refine AllReadyH.cons (o := ⟨some 76, _, _, _, _, _⟩) rfl (fun K hK => ?_) AllReadyH.nil
          go_simp
          go_at_call 21
          (with_reducible refine (Idle_calls gn b s p r ⟨m', i', q'⟩ _ ST7.out.n).mono ?_); rintro e w8 ⟨rfl, hd⟩; have ST8 := Aside0.mk (ST7.out.below (Drawn0.below hd)); clear hd
          dsimp only
          refine hK.out _ _ (And.intro ST8.out.box ST8.out.mcells) (fun hS18 => ?_)
          clear hK K
          try simp only [Act.put, List.setIfInBounds_toArray, List.set_cons_zero, List.set_cons_succ]
          refine wpAnyH_take (i := 23) (oi := ⟨some 81, _, _, _, _, _⟩) (v := (.bool false)) rfl (by kernel_rfl) (by kernel_rfl) (by kernel_rfl) (fun _ _ _ h => h) (Or.inl ⟨by rfl, fun w hSw => by (try dsimp only at hSw); go_simp⟩) (by assumption) ?_
          try simp only [Act.put, List.setIfInBounds_toArray, List.set_cons_zero, List.set_cons_succ]
          refine wpAnyH_take (i := 24) (oi := ⟨some 82, _, _, _, _, _⟩) (v := (.bool false)) rfl (by kernel_rfl) (by kernel_rfl) (by kernel_rfl) (fun _ _ _ h => h) (Or.inl ⟨by rfl, fun w hSw => by (try dsimp only at hSw); go_simp⟩) (by assumption) ?_
          try simp only [Act.put, List.setIfInBounds_toArray, List.set_cons_zero, List.set_cons_succ]
          refine wpAnyH_take (i := 25) (oi := ⟨some 83, _, _, _, _, _⟩) (v := (.bool false)) rfl (by kernel_rfl) (by kernel_rfl) (by kernel_rfl) (fun _ _ _ h => h) (Or.inl ⟨by rfl, fun w hSw => by (try dsimp only at hSw); go_simp⟩) (by assumption) ?_
          try simp only [Act.put, List.setIfInBounds_toArray, List.set_cons_zero, List.set_cons_succ]
          refine wpAnyH_take (i := 26) (oi := ⟨some 84, _, _, _, _, _⟩) (v := (.pointer (some ⟨gn, 0, none⟩))) rfl (by kernel_rfl) (by kernel_rfl) (by kernel_rfl) (fun _ _ _ h => h) (Or.inl ⟨by rfl, fun w hSw => by (try dsimp only at hSw); go_simp⟩) (by assumption) ?_
          try simp only [Act.put, List.setIfInBounds_toArray, List.set_cons_zero, List.set_cons_succ]
          refine wpAnyH_take (i := 28) (oi := ⟨some 86, _, _, _, _, _⟩) (v := (.int .i64 r)) rfl (by kernel_rfl) (by kernel_rfl) (by kernel_rfl) (fun _ _ _ h => h) (Or.inl ⟨by rfl, fun w hSw => by (try dsimp only at hSw); go_simp⟩) (by assumption) ?_
          try simp only [Act.put, List.setIfInBounds_toArray, List.set_cons_zero, List.set_cons_succ]
          refine wpAnyH_ready (rs := [27]) (by kernel_rfl) (by simp) ?_
          refine AllReadyH.cons (o := ⟨some 85, _, _, _, _, _⟩) rfl (fun K hK => ?_) AllReadyH.nil
          go_simp
          go_at_call 22
          (with_reducible refine (Rank_calls gn b s p r ⟨m', i', q'⟩ _ ST8.out.n).mono ?_); rintro e w9 ⟨rfl, hd⟩; have ST9 := Aside0.mk (ST8.out.below (Drawn0.below hd)); clear hd
          dsimp only
          refine hK.out _ _ (And.intro ST9.out.box ST9.out.mcells) (fun hS27 => ?_)
          clear hK K
          try simp only [Act.put, List.setIfInBounds_toArray, List.set_cons_zero, List.set_cons_succ]
          refine wpAnyH_take (i := 29) (oi := ⟨some 87, _, _, _, _, _⟩) (v := (.bool false)) rfl (by kernel_rfl) (by kernel_rfl) (by kernel_rfl) (fun _ _ _ h => h) (Or.inl ⟨by rfl, fun w hSw => by (try dsimp only at hSw); go_simp⟩) (by assumption) ?_
          try simp only [Act.put, List.setIfInBounds_toArray, List.set_cons_zero, List.set_cons_succ]
          refine wpAnyH_take (i := 30) (oi := ⟨some 88, _, _, _, _, _⟩) (v := (.bool false)) rfl (by kernel_rfl) (by kernel_rfl) (by kernel_rfl) (fun _ _ _ h => h) (Or.inl ⟨by rfl, fun w hSw => by (try dsimp only at hSw); go_simp⟩) (by assumption) ?_
          try simp only [Act.put, List.setIfInBounds_toArray, List.set_cons_zero, List.set_cons_succ]
          refine wpAnyH_take (i := 31) (oi := ⟨some 89, _, _, _, _, _⟩) (v := (.bool false)) rfl (by kernel_rfl) (by kernel_rfl) (by kernel_rfl) (fun _ _ _ h => h) (Or.inl ⟨by rfl, fun w hSw => by (try dsimp only at hSw); go_simp⟩) (by assumption) ?_
          try simp only [Act.put, List.setIfInBounds_toArray, List.set_cons_zero, List.set_cons_succ]
          refine wpAnyH_take (i := 32) (oi := ⟨some 90, _, _, _, _, _⟩) (v := (.pointer (some ⟨gn, 0, none⟩))) rfl (by kernel_rfl) (by kernel_rfl) (by kernel_rfl) (fun _ _ _ h => h) (Or.inl ⟨by rfl, fun w hSw => by (try dsimp only at hSw); go_simp⟩) (by assumption) ?_
          try simp only [Act.put, List.setIfInBounds_toArray, List.set_cons_zero, List.set_cons_succ]
          refine wpAnyH_take (i := 34) (oi := ⟨some 92, _, _, _, _, _⟩) (v := (.agg #[.int .i64 b, .int .i64 s, .int .i64 p])) rfl (by kernel_rfl) (by kernel_rfl) (by kernel_rfl) (fun _ _ _ h => h) (Or.inl ⟨by rfl, fun w hSw => by (try dsimp only at hSw); go_simp⟩) (by assumption) ?_
          try simp only [Act.put, List.setIfInBounds_toArray, List.set_cons_zero, List.set_cons_succ]
          refine wpAnyH_take (i := 36) (oi := ⟨some 94, _, _, _, _, _⟩) (v := (.int .i64 r)) rfl (by kernel_rfl) (by kernel_rfl) (by kernel_rfl) (fun _ _ _ h => h) (Or.inl ⟨by rfl, fun w hSw => by (try dsimp only at hSw); go_simp⟩) (by assumption) ?_
          try simp only [Act.put, List.setIfInBounds_toArray, List.set_cons_zero, List.set_cons_succ]
          refine wpAnyH_ready (rs := [33]) (by kernel_rfl) (by simp) ?_
          refine AllReadyH.cons (o := ⟨some 91, _, _, _, _, _⟩) rfl (fun K hK => ?_) AllReadyH.nil
          go_simp
          go_at_call 21
          (with_reducible refine (Idle_calls gn b s p r ⟨m', i', q'⟩ _ ST9.out.n).mono ?_); rintro e wa ⟨rfl, hd⟩; have STa := Aside0.mk (ST9.out.below (Drawn0.below hd)); clear hd
          dsimp only
          refine hK.out _ _ (And.intro STa.out.box STa.out.mcells) (fun hS33 => ?_)
          clear hK K
          try simp only [Act.put, List.setIfInBounds_toArray, List.set_cons_zero, List.set_cons_succ]
          refine wpAnyH_ready (rs := [35]) (by kernel_rfl) (by simp) ?_
          refine AllReadyH.cons (o := ⟨some 93, _, _, _, _, _⟩) rfl (fun K hK => ?_) AllReadyH.nil
          go_simp
          go_at_call 11
          (with_reducible refine (bellbuoylaw21_plain.calls b s p b s p _ rfl).mono ?_); rintro e wb ⟨rfl, hb⟩; have STb := Aside0.mk (STa.out.below hb); clear hb
          dsimp only
          refine hK.out _ _ (And.intro STb.out.box STb.out.mcells) (fun hS35 => ?_)
          clear hK K
          try simp only [Act.put, List.setIfInBounds_toArray, List.set_cons_zero, List.set_cons_succ]
          refine wpAnyH_ready (rs := [37]) (by kernel_rfl) (by simp) ?_
          refine AllReadyH.cons (o := ⟨some 95, _, _, _, _, _⟩) rfl (fun K hK => ?_) AllReadyH.nil
          go_simp
          go_at_call 13
          (with_reducible refine (bellbuoyref21_Wait.calls b s p r _ _ HW.out).mono ?_); rintro e wc ⟨rfl, hb⟩; have STc := Aside0.mk (STb.out.below hb); clear hb
          dsimp only
          refine hK.out _ _ (And.intro STc.out.box STc.out.mcells) (fun hS37 => ?_)
          clear hK K
          try simp only [Act.put, List.setIfInBounds_toArray, List.set_cons_zero, List.set_cons_succ]
          refine wpAnyH_take (i := 38) (oi := ⟨some 96, _, _, _, _, _⟩) (v := (.bool false)) rfl (by kernel_rfl) (by kernel_rfl) (by kernel_rfl) (fun _ _ _ h => h) (Or.inl ⟨by rfl, fun w hSw => by (try dsimp only at hSw); go_simp⟩) (by assumption) ?_
          try simp only [Act.put, List.setIfInBounds_toArray, List.set_cons_zero, List.set_cons_succ]
          refine wpAnyH_take (i := 39) (oi := ⟨some 97, _, _, _, _, _⟩) (v := (.bool false)) rfl (by kernel_rfl) (by kernel_rfl) (by kernel_rfl) (fun _ _ _ h => h) (Or.inl ⟨by rfl, fun w hSw => by (try dsimp only at hSw); go_simp⟩) (by assumption) ?_
          try simp only [Act.put, List.setIfInBounds_toArray, List.set_cons_zero, List.set_cons_succ]
          refine wpAnyH_done (by kernel_rfl) ?_ _
          go_wp2
          go_roundg k1
          case measure => omega
          case rel => exact ⟨i + 1, m', i', q', by first | rw [hi1] | rfl, HI', OK', STc⟩
        · have u3 : decide ((mm : Int) > 10) = false := decide_eq_false (by omega)
          have u4 : decide ((10 : Int) < (mm : Int)) = false := decide_eq_false (by omega)
          have u5 : decide (10 < mm) = false := decide_eq_false h10
          have HC : Aside0 (Kd.C (Kd.int .i64) w bb mm zs) := ⟨hC⟩
          have HL : Aside0 ((zs).length = mm ∧ (zs).length ≤ cc) := ⟨hz, by omega⟩
          obtain ⟨tt, m', i', q', hs⟩ : ∃ tt m' i' q', tickN (waitV b s p r) p r zs ⟨m0, i0, q0⟩ = (tt, ⟨m', i', q'⟩) := ⟨_, _, _, _, rfl⟩
          have HS := Aside0.mk hs
          have OK' : Aside0 (NdOk (waitV b s p r) p ⟨m', i', q'⟩) := ⟨by have := tickN_ok (r := r) (zs := zs) OK.out (wait_range b s p r).1 HP.out.1; rw [hs] at this; exact this⟩
          have hne : (tt != tt) = false := by simp
          have hne2 : (m' != m') = false := by simp
          have hne3 : (i' != i') = false := by simp
          have hne4 : (r != r) = false := by simp
          have hne5 : decide (i' > waitV b s p r) = false := decide_eq_false (by have : i' ≤ waitV b s p r := OK'.out.2.1; omega)
          have hne6 : decide (waitV b s p r < i') = false := decide_eq_false (by have : i' ≤ waitV b s p r := OK'.out.2.1; omega)
          clear hs
          clear hC hz hmc hcm hbb h10 hcell0 hlt t1 t2
          go_wp2_with fail
          refine wp_region_held_drew (S := (fun w' : World => w'.cell? ⟨w.heap.size, 0, none⟩ = some (.int .i64 b) ∧ w'.cell? ⟨w.heap.size, 1, none⟩ = some (.int .i64 s) ∧ w'.cell? ⟨w.heap.size, 2, none⟩ = some (.int .i64 p))) (by kernel_rfl) ST.out.box (fun hS0 => ?_)
          refine wpAnyH_take (i := 0) (oi := ⟨some 58, _, _, _, _, _⟩) (v := (.pointer (some ⟨gn, 0, none⟩))) rfl (by kernel_rfl) (by kernel_rfl) (by kernel_rfl) (fun _ _ _ h => h) (Or.inl ⟨by rfl, fun w hSw => by (try dsimp only at hSw); go_simp⟩) (by assumption) ?_
          try simp only [Act.put, List.setIfInBounds_toArray, List.set_cons_zero, List.set_cons_succ]
          refine wpAnyH_take (i := 1) (oi := ⟨some 59, _, _, _, _, _⟩) (v := (.slice bb mm cc)) rfl (by kernel_rfl) (by kernel_rfl) (by kernel_rfl) (fun _ _ _ h => h) (Or.inl ⟨by rfl, fun w hSw => by (try dsimp only at hSw); go_simp⟩) (by assumption) ?_
          try simp only [Act.put, List.setIfInBounds_toArray, List.set_cons_zero, List.set_cons_succ]
          refine wpAnyH_take (i := 3) (oi := ⟨some 61, _, _, _, _, _⟩) (v := (.pointer (some ⟨gm, 0, none⟩))) rfl (by kernel_rfl) (by kernel_rfl) (by kernel_rfl) (fun _ _ _ h => h) (Or.inl ⟨by rfl, fun w hSw => by (try dsimp only at hSw); go_simp⟩) (by assumption) ?_
          try simp only [Act.put, List.setIfInBounds_toArray, List.set_cons_zero, List.set_cons_succ]
          refine wpAnyH_take (i := 4) (oi := ⟨some 62, _, _, _, _, _⟩) (v := (.slice bb mm cc)) rfl (by kernel_rfl) (by kernel_rfl) (by kernel_rfl) (fun _ _ _ h => h) (Or.inl ⟨by rfl, fun w hSw => by (try dsimp only at hSw); go_simp⟩) (by assumption) ?_
          try simp only [Act.put, List.setIfInBounds_toArray, List.set_cons_zero, List.set_cons_succ]
          refine wpAnyH_ready (rs := [2]) (by kernel_rfl) (by simp) ?_
          refine AllReadyH.cons (o := ⟨some 60, _, _, _, _, _⟩) rfl (fun K hK => ?_) AllReadyH.nil
          go_simp
          go_at_call 18
          (with_reducible refine (PTick_calls gn b s p r ⟨m0, i0, q0⟩ _ _ _ zs _ ST.out.drew.n HL.out.1 HL.out.2 (by rw [HL.out.1]; exact Kd.C_below HC.out ST.out.drew.B) OK.out HP.out.1 HP.out.2).mono ?_); rintro e w5 ⟨rfl, hn5, hc5⟩; have ST5 := Aside0.mk (ST.out.drew.tn hn5 hc5); rw [HS.out] at ST5; clear hn5 hc5
          dsimp only
          refine hK.out _ _ ST5.out.box (fun hS2 => ?_)
          clear hK K
          try simp only [Act.put, List.setIfInBounds_toArray, List.set_cons_zero, List.set_cons_succ]
          refine wpAnyH_ready (rs := [5]) (by kernel_rfl) (by simp) ?_
          refine AllReadyH.cons (o := ⟨some 63, _, _, _, _, _⟩) rfl (fun K hK => ?_) AllReadyH.nil
          go_simp
          go_at_call 19
          (with_reducible refine (RTick_calls gm b s p r ⟨m0, i0, q0⟩ _ _ _ zs _ ST5.out.m HL.out.1 HL.out.2 (by rw [HL.out.1]; exact Kd.C_below HC.out ST5.out.B) OK.out HP.out.2).mono ?_); rintro e w6 ⟨rfl, hn6, hc6⟩; have ST6 := Aside0.mk (ST5.out.tm hn6 hc6); rw [HS.out] at ST6; clear hn6 hc6
          dsimp only
          refine hK.out _ _ ST6.out.box (fun hS5 => ?_)
          clear hK K
          try simp only [Act.put, List.setIfInBounds_toArray, List.set_cons_zero, List.set_cons_succ]
          rw [HS.out]
          refine wpAnyH_weaken (S' := (fun w' : World => (w'.cell? ⟨w.heap.size, 0, none⟩ = some (.int .i64 b) ∧ w'.cell? ⟨w.heap.size, 1, none⟩ = some (.int .i64 s) ∧ w'.cell? ⟨w.heap.size, 2, none⟩ = some (.int .i64 p)) ∧ w'.cell? ⟨gm, 4, none⟩ = some (.bool m') ∧ w'.cell? ⟨gm, 5, none⟩ = some (.int .i64 i'))) (fun _ h => h.1) _ _ _ _ ?_
          have hSx := (And.intro ST6.out.box ST6.out.mcells)
          refine wpAnyH_take (i := 6) (oi := ⟨some 64, _, _, _, _, _⟩) (v := (.bool false)) rfl (by kernel_rfl) (by kernel_rfl) (by kernel_rfl) (fun _ _ _ h => h) (Or.inl ⟨by rfl, fun w hSw => by (try dsimp only at hSw); go_simp⟩) (by assumption) ?_
          try simp only [Act.put, List.setIfInBounds_toArray, List.set_cons_zero, List.set_cons_succ]
          refine wpAnyH_take (i := 7) (oi := ⟨some 65, _, _, _, _, _⟩) (v := (.bool false)) rfl (by kernel_rfl) (by kernel_rfl) (by kernel_rfl) (fun _ _ _ h => h) (Or.inl ⟨by rfl, fun w hSw => by (try dsimp only at hSw); go_simp⟩) (by assumption) ?_
          try simp only [Act.put, List.setIfInBounds_toArray, List.set_cons_zero, List.set_cons_succ]
          refine wpAnyH_take (i := 8) (oi := ⟨some 66, _, _, _, _, _⟩) (v := (.pointer (some ⟨gn, 0, none⟩))) rfl (by kernel_rfl) (by kernel_rfl) (by kernel_rfl) (fun _ _ _ h => h) (Or.inl ⟨by rfl, fun w hSw => by (try dsimp only at hSw); go_simp⟩) (by assumption) ?_
          try simp only [Act.put, List.setIfInBounds_toArray, List.set_cons_zero, List.set_cons_succ]
          refine wpAnyH_take (i := 10) (oi := ⟨some 68, _, _, _, _, _⟩) (v := (.pointer (some ⟨gm, 0, none⟩))) rfl (by kernel_rfl) (by kernel_rfl) (by kernel_rfl) (fun _ _ _ h => h) (Or.inl ⟨by rfl, fun w hSw => by (try dsimp only at hSw); go_simp⟩) (by assumption) ?_
          try simp only [Act.put, List.setIfInBounds_toArray, List.set_cons_zero, List.set_cons_succ]
          refine wpAnyH_take (i := 11) (oi := ⟨some 69, _, _, _, _, _⟩) (v := (.pointer (some ⟨gm, 0, none⟩))) rfl (by kernel_rfl) (by kernel_rfl) (by kernel_rfl) (fun _ _ _ h => h) (Or.inl ⟨by rfl, fun w hSw => by (try dsimp only at hSw); go_simp⟩) (by assumption) ?_
          try simp only [Act.put, List.setIfInBounds_toArray, List.set_cons_zero, List.set_cons_succ]
          refine wpAnyH_take (i := 12) (oi := ⟨some 70, _, _, _, _, _⟩) (v := (.pointer (some ⟨gm, 4, none⟩))) rfl (by kernel_rfl) (by kernel_rfl) (by kernel_rfl) (fun _ _ _ h => h) (Or.inl ⟨by rfl, fun w hSw => by (try dsimp only at hSw); go_simp⟩) (by assumption) ?_
          try simp only [Act.put, List.setIfInBounds_toArray, List.set_cons_zero, List.set_cons_succ]
          refine wpAnyH_take (i := 13) (oi := ⟨some 71, _, _, _, _, _⟩) (v := (.bool m')) rfl (by kernel_rfl) (by kernel_rfl) (by kernel_rfl) (fun _ _ _ h => h) (Or.inl ⟨by rfl, fun w hSw => by (try dsimp only at hSw); go_simp⟩) (by assumption) ?_
          try simp only [Act.put, List.setIfInBounds_toArray, List.set_cons_zero, List.set_cons_succ]
          refine wpAnyH_ready (rs := [9]) (by kernel_rfl) (by simp) ?_
          refine AllReadyH.cons (o := ⟨some 67, _, _, _, _, _⟩) rfl (fun K hK => ?_) AllReadyH.nil
          go_simp
          go_at_call 20
          (with_reducible refine (Master_calls gn b s p r ⟨m', i', q'⟩ _ ST6.out.n).mono ?_); rintro e w7 ⟨rfl, hd⟩; have ST7 := Aside0.mk (ST6.out.below (Drawn0.below hd)); clear hd
          dsimp only
          refine hK.out _ _ (And.intro ST7.out.box ST7.out.mcells) (fun hS9 => ?_)
          clear hK K
          try simp only [Act.put, List.setIfInBounds_toArray, List.set_cons_zero, List.set_cons_succ]
          refine wpAnyH_take (i := 14) (oi := ⟨some 72, _, _, _, _, _⟩) (v := (.bool false)) rfl (by kernel_rfl) (by kernel_rfl) (by kernel_rfl) (fun _ _ _ h => h) (Or.inl ⟨by rfl, fun w hSw => by (try dsimp only at hSw); go_simp⟩) (by assumption) ?_
          try simp only [Act.put, List.setIfInBounds_toArray, List.set_cons_zero, List.set_cons_succ]
          refine wpAnyH_take (i := 15) (oi := ⟨some 73, _, _, _, _, _⟩) (v := (.bool false)) rfl (by kernel_rfl) (by kernel_rfl) (by kernel_rfl) (fun _ _ _ h => h) (Or.inl ⟨by rfl, fun w hSw => by (try dsimp only at hSw); go_simp⟩) (by assumption) ?_
          try simp only [Act.put, List.setIfInBounds_toArray, List.set_cons_zero, List.set_cons_succ]
          refine wpAnyH_take (i := 16) (oi := ⟨some 74, _, _, _, _, _⟩) (v := (.bool false)) rfl (by kernel_rfl) (by kernel_rfl) (by kernel_rfl) (fun _ _ _ h => h) (Or.inl ⟨by rfl, fun w hSw => by (try dsimp only at hSw); go_simp⟩) (by assumption) ?_
          try simp only [Act.put, List.setIfInBounds_toArray, List.set_cons_zero, List.set_cons_succ]
          refine wpAnyH_take (i := 17) (oi := ⟨some 75, _, _, _, _, _⟩) (v := (.pointer (some ⟨gn, 0, none⟩))) rfl (by kernel_rfl) (by kernel_rfl) (by kernel_rfl) (fun _ _ _ h => h) (Or.inl ⟨by rfl, fun w hSw => by (try dsimp only at hSw); go_simp⟩) (by assumption) ?_
          try simp only [Act.put, List.setIfInBounds_toArray, List.set_cons_zero, List.set_cons_succ]
          refine wpAnyH_take (i := 19) (oi := ⟨some 77, _, _, _, _, _⟩) (v := (.pointer (some ⟨gm, 0, none⟩))) rfl (by kernel_rfl) (by kernel_rfl) (by kernel_rfl) (fun _ _ _ h => h) (Or.inl ⟨by rfl, fun w hSw => by (try dsimp only at hSw); go_simp⟩) (by assumption) ?_
          try simp only [Act.put, List.setIfInBounds_toArray, List.set_cons_zero, List.set_cons_succ]
          refine wpAnyH_take (i := 20) (oi := ⟨some 78, _, _, _, _, _⟩) (v := (.pointer (some ⟨gm, 0, none⟩))) rfl (by kernel_rfl) (by kernel_rfl) (by kernel_rfl) (fun _ _ _ h => h) (Or.inl ⟨by rfl, fun w hSw => by (try dsimp only at hSw); go_simp⟩) (by assumption) ?_
          try simp only [Act.put, List.setIfInBounds_toArray, List.set_cons_zero, List.set_cons_succ]
          refine wpAnyH_take (i := 21) (oi := ⟨some 79, _, _, _, _, _⟩) (v := (.pointer (some ⟨gm, 5, none⟩))) rfl (by kernel_rfl) (by kernel_rfl) (by kernel_rfl) (fun _ _ _ h => h) (Or.inl ⟨by rfl, fun w hSw => by (try dsimp only at hSw); go_simp⟩) (by assumption) ?_
          try simp only [Act.put, List.setIfInBounds_toArray, List.set_cons_zero, List.set_cons_succ]
          refine wpAnyH_take (i := 22) (oi := ⟨some 80, _, _, _, _, _⟩) (v := (.int .i64 i')) rfl (by kernel_rfl) (by kernel_rfl) (by kernel_rfl) (fun _ _ _ h => h) (Or.inl ⟨by rfl, fun w hSw => by (try dsimp only at hSw); go_simp⟩) (by assumption) ?_
          try simp only [Act.put, List.setIfInBounds_toArray, List.set_cons_zero, List.set_cons_succ]
          refine wpAnyH_ready (rs := [18]) (by kernel_rfl) (by simp) ?_
          refine AllReadyH.cons (o := ⟨some 76, _, _, _, _, _⟩) rfl (fun K hK => ?_) AllReadyH.nil
          go_simp
          go_at_call 21
          (with_reducible refine (Idle_calls gn b s p r ⟨m', i', q'⟩ _ ST7.out.n).mono ?_); rintro e w8 ⟨rfl, hd⟩; have ST8 := Aside0.mk (ST7.out.below (Drawn0.below hd)); clear hd
          dsimp only
          refine hK.out _ _ (And.intro ST8.out.box ST8.out.mcells) (fun hS18 => ?_)
          clear hK K
          try simp only [Act.put, List.setIfInBounds_toArray, List.set_cons_zero, List.set_cons_succ]
          refine wpAnyH_take (i := 23) (oi := ⟨some 81, _, _, _, _, _⟩) (v := (.bool false)) rfl (by kernel_rfl) (by kernel_rfl) (by kernel_rfl) (fun _ _ _ h => h) (Or.inl ⟨by rfl, fun w hSw => by (try dsimp only at hSw); go_simp⟩) (by assumption) ?_
          try simp only [Act.put, List.setIfInBounds_toArray, List.set_cons_zero, List.set_cons_succ]
          refine wpAnyH_take (i := 24) (oi := ⟨some 82, _, _, _, _, _⟩) (v := (.bool false)) rfl (by kernel_rfl) (by kernel_rfl) (by kernel_rfl) (fun _ _ _ h => h) (Or.inl ⟨by rfl, fun w hSw => by (try dsimp only at hSw); go_simp⟩) (by assumption) ?_
          try simp only [Act.put, List.setIfInBounds_toArray, List.set_cons_zero, List.set_cons_succ]
          refine wpAnyH_take (i := 25) (oi := ⟨some 83, _, _, _, _, _⟩) (v := (.bool false)) rfl (by kernel_rfl) (by kernel_rfl) (by kernel_rfl) (fun _ _ _ h => h) (Or.inl ⟨by rfl, fun w hSw => by (try dsimp only at hSw); go_simp⟩) (by assumption) ?_
          try simp only [Act.put, List.setIfInBounds_toArray, List.set_cons_zero, List.set_cons_succ]
          refine wpAnyH_take (i := 26) (oi := ⟨some 84, _, _, _, _, _⟩) (v := (.pointer (some ⟨gn, 0, none⟩))) rfl (by kernel_rfl) (by kernel_rfl) (by kernel_rfl) (fun _ _ _ h => h) (Or.inl ⟨by rfl, fun w hSw => by (try dsimp only at hSw); go_simp⟩) (by assumption) ?_
          try simp only [Act.put, List.setIfInBounds_toArray, List.set_cons_zero, List.set_cons_succ]
          refine wpAnyH_take (i := 28) (oi := ⟨some 86, _, _, _, _, _⟩) (v := (.int .i64 r)) rfl (by kernel_rfl) (by kernel_rfl) (by kernel_rfl) (fun _ _ _ h => h) (Or.inl ⟨by rfl, fun w hSw => by (try dsimp only at hSw); go_simp⟩) (by assumption) ?_
          try simp only [Act.put, List.setIfInBounds_toArray, List.set_cons_zero, List.set_cons_succ]
          refine wpAnyH_ready (rs := [27]) (by kernel_rfl) (by simp) ?_
          refine AllReadyH.cons (o := ⟨some 85, _, _, _, _, _⟩) rfl (fun K hK => ?_) AllReadyH.nil
          go_simp
          go_at_call 22
          (with_reducible refine (Rank_calls gn b s p r ⟨m', i', q'⟩ _ ST8.out.n).mono ?_); rintro e w9 ⟨rfl, hd⟩; have ST9 := Aside0.mk (ST8.out.below (Drawn0.below hd)); clear hd
          dsimp only
          refine hK.out _ _ (And.intro ST9.out.box ST9.out.mcells) (fun hS27 => ?_)
          clear hK K
          try simp only [Act.put, List.setIfInBounds_toArray, List.set_cons_zero, List.set_cons_succ]
          refine wpAnyH_take (i := 29) (oi := ⟨some 87, _, _, _, _, _⟩) (v := (.bool false)) rfl (by kernel_rfl) (by kernel_rfl) (by kernel_rfl) (fun _ _ _ h => h) (Or.inl ⟨by rfl, fun w hSw => by (try dsimp only at hSw); go_simp⟩) (by assumption) ?_
          try simp only [Act.put, List.setIfInBounds_toArray, List.set_cons_zero, List.set_cons_succ]
          refine wpAnyH_take (i := 30) (oi := ⟨some 88, _, _, _, _, _⟩) (v := (.bool false)) rfl (by kernel_rfl) (by kernel_rfl) (by kernel_rfl) (fun _ _ _ h => h) (Or.inl ⟨by rfl, fun w hSw => by (try dsimp only at hSw); go_simp⟩) (by assumption) ?_
          try simp only [Act.put, List.setIfInBounds_toArray, List.set_cons_zero, List.set_cons_succ]
          refine wpAnyH_take (i := 31) (oi := ⟨some 89, _, _, _, _, _⟩) (v := (.bool false)) rfl (by kernel_rfl) (by kernel_rfl) (by kernel_rfl) (fun _ _ _ h => h) (Or.inl ⟨by rfl, fun w hSw => by (try dsimp only at hSw); go_simp⟩) (by assumption) ?_
          try simp only [Act.put, List.setIfInBounds_toArray, List.set_cons_zero, List.set_cons_succ]
          refine wpAnyH_take (i := 32) (oi := ⟨some 90, _, _, _, _, _⟩) (v := (.pointer (some ⟨gn, 0, none⟩))) rfl (by kernel_rfl) (by kernel_rfl) (by kernel_rfl) (fun _ _ _ h => h) (Or.inl ⟨by rfl, fun w hSw => by (try dsimp only at hSw); go_simp⟩) (by assumption) ?_
          try simp only [Act.put, List.setIfInBounds_toArray, List.set_cons_zero, List.set_cons_succ]
          refine wpAnyH_take (i := 34) (oi := ⟨some 92, _, _, _, _, _⟩) (v := (.agg #[.int .i64 b, .int .i64 s, .int .i64 p])) rfl (by kernel_rfl) (by kernel_rfl) (by kernel_rfl) (fun _ _ _ h => h) (Or.inl ⟨by rfl, fun w hSw => by (try dsimp only at hSw); go_simp⟩) (by assumption) ?_
          try simp only [Act.put, List.setIfInBounds_toArray, List.set_cons_zero, List.set_cons_succ]
          refine wpAnyH_take (i := 36) (oi := ⟨some 94, _, _, _, _, _⟩) (v := (.int .i64 r)) rfl (by kernel_rfl) (by kernel_rfl) (by kernel_rfl) (fun _ _ _ h => h) (Or.inl ⟨by rfl, fun w hSw => by (try dsimp only at hSw); go_simp⟩) (by assumption) ?_
          try simp only [Act.put, List.setIfInBounds_toArray, List.set_cons_zero, List.set_cons_succ]
          refine wpAnyH_ready (rs := [33]) (by kernel_rfl) (by simp) ?_
          refine AllReadyH.cons (o := ⟨some 91, _, _, _, _, _⟩) rfl (fun K hK => ?_) AllReadyH.nil
          go_simp
          go_at_call 21
          (with_reducible refine (Idle_calls gn b s p r ⟨m', i', q'⟩ _ ST9.out.n).mono ?_); rintro e wa ⟨rfl, hd⟩; have STa := Aside0.mk (ST9.out.below (Drawn0.below hd)); clear hd
          dsimp only
          refine hK.out _ _ (And.intro STa.out.box STa.out.mcells) (fun hS33 => ?_)
          clear hK K
          try simp only [Act.put, List.setIfInBounds_toArray, List.set_cons_zero, List.set_cons_succ]
          refine wpAnyH_ready (rs := [35]) (by kernel_rfl) (by simp) ?_
          refine AllReadyH.cons (o := ⟨some 93, _, _, _, _, _⟩) rfl (fun K hK => ?_) AllReadyH.nil
          go_simp
          go_at_call 11
          (with_reducible refine (bellbuoylaw21_plain.calls b s p b s p _ rfl).mono ?_); rintro e wb ⟨rfl, hb⟩; have STb := Aside0.mk (STa.out.below hb); clear hb
          dsimp only
          refine hK.out _ _ (And.intro STb.out.box STb.out.mcells) (fun hS35 => ?_)
          clear hK K
          try simp only [Act.put, List.setIfInBounds_toArray, List.set_cons_zero, List.set_cons_succ]
          refine wpAnyH_ready (rs := [37]) (by kernel_rfl) (by simp) ?_
          refine AllReadyH.cons (o := ⟨some 95, _, _, _, _, _⟩) rfl (fun K hK => ?_) AllReadyH.nil
          go_simp
          go_at_call 13
          (with_reducible refine (bellbuoyref21_Wait.calls b s p r _ _ HW.out).mono ?_); rintro e wc ⟨rfl, hb⟩; have STc := Aside0.mk (STb.out.below hb); clear hb
          dsimp only
          refine hK.out _ _ (And.intro STc.out.box STc.out.mcells) (fun hS37 => ?_)
          clear hK K
          try simp only [Act.put, List.setIfInBounds_toArray, List.set_cons_zero, List.set_cons_succ]
          refine wpAnyH_take (i := 38) (oi := ⟨some 96, _, _, _, _, _⟩) (v := (.bool false)) rfl (by kernel_rfl) (by kernel_rfl) (by kernel_rfl) (fun _ _ _ h => h) (Or.inl ⟨by rfl, fun w hSw => by (try dsimp only at hSw); go_simp⟩) (by assumption) ?_
          try simp only [Act.put, List.setIfInBounds_toArray, List.set_cons_zero, List.set_cons_succ]
          refine wpAnyH_take (i := 39) (oi := ⟨some 97, _, _, _, _, _⟩) (v := (.bool false)) rfl (by kernel_rfl) (by kernel_rfl) (by kernel_rfl) (fun _ _ _ h => h) (Or.inl ⟨by rfl, fun w hSw => by (try dsimp only at hSw); go_simp⟩) (by assumption) ?_
          try simp only [Act.put, List.setIfInBounds_toArray, List.set_cons_zero, List.set_cons_succ]
          refine wpAnyH_done (by kernel_rfl) ?_ _
          go_wp2
          go_roundg k1
          case measure => omega
          case rel => exact ⟨i + 1, m', i', q', by first | rw [hi1] | rfl, HI', OK', STc⟩
      · have u2 : decide (i < 200) = false := decide_eq_false t2
        clear t1 t2
        go_wp2_with fail
        (with_reducible refine (live_calls _).mono ?_); rintro e w5 ⟨rfl, hb⟩
        go_wp2_with fail
        go_ret
        exact ⟨rfl, below_step ST.out.B hb⟩
    · have u1 : decide (i < (len : Int)) = false := decide_eq_false t1
      clear t1
      go_wp2_with fail
      (with_reducible refine (live_calls _).mono ?_); rintro e w5 ⟨rfl, hb⟩
      go_wp2_with fail
      go_ret
      exact ⟨rfl, below_step ST.out.B hb⟩
theorem RankNode_walk (b s p r : Int) (A : Option Addr) (len cap : Nat) (w : World) (w0 : (Lit.int .i64 b).wf = true) (w1 : (Lit.int .i64 s).wf = true) (w2 : (Lit.int .i64 p).wf = true) (w3 : (Lit.int .i64 r).wf = true)
    (h : (A = none ∧ len = 0 ∧ cap = 0) ∨ ∃ x, A = some x ∧ len ≤ cap ∧ cap ≤ maxLen ∧ ∀ i, i < len → ∃ bb m c zs, w.cell? (x.add i) = some (.slice bb m c) ∧ ((bb = none ∧ m = 0 ∧ c = 0 ∧ zs = []) ∨ ∃ y, bb = some y ∧ m ≤ c ∧ c ≤ maxLen ∧ zs.length = c ∧ (∀ i, i < zs.length → w.cell? (y.add i) = some (.int .i64 (zs.getD i 0))) ∧ ∀ n ∈ zs, (Lit.int .i64 n).wf = true)) :
    Calls Try.prog 4 #[.agg #[.int .i64 b, .int .i64 s, .int .i64 p], .int .i64 r, .slice A len cap] w fun e w' => e = .returned (.bool true) ∧ Below w.heap.size w w' := by
  have hl : len ≤ maxLen ∧ Rows2 w A len := by
    rcases h with ⟨rfl, rfl, rfl⟩ | ⟨x, rfl, hl, hm, hr⟩
    · exact ⟨Nat.zero_le _, fun i hi => absurd hi (Nat.not_lt_zero _)⟩
    · refine ⟨Nat.le_trans hl hm, fun i hi => ?_⟩
      obtain ⟨bb, m, c, zs, hcell, hz⟩ := hr i hi
      rcases hz with ⟨rfl, rfl, rfl, rfl⟩ | ⟨y, rfl, h1, h2, h3, h4, h5⟩
      · exact ⟨x, none, 0, 0, [], rfl, hcell, ⟨rfl, by decide, fun h => absurd h (Nat.lt_irrefl _)⟩, rfl, Nat.le_refl _, Nat.zero_le _, fun h => absurd h (Nat.lt_irrefl _)⟩
      · refine ⟨x, some y, m, c, zs.take m, rfl, hcell, C_ints (by rw [List.length_take]; omega) (Nat.le_trans h1 h2) (fun j hj => ?_), by rw [List.length_take]; omega, h1, h2, fun _ => rfl⟩
        rw [List.getD_eq_getElem?_getD, List.getElem?_take_of_lt hj, ← List.getD_eq_getElem?_getD]
        exact h4 j (by omega)
  cases h1 : rightB b s p with
  | false => exact Node_no b s p r A len cap w (by rw [h1]; rfl)
  | true =>
    cases h2 : rankB r with
    | false => exact Node_no b s p r A len cap w (by rw [h1, h2]; rfl)
    | true => exact Node_yes b s p r A len cap w h1 h2 hl.2 hl.1
end Go.Proofs.Ytcgkbbfnlbjblaa.P
