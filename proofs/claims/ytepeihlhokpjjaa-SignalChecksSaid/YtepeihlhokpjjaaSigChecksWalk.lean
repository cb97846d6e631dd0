/- The checks, the packing and the unpacking are the document's: the walk. Condition: the numbers are of their kinds. -/
import Derived.Test.YtepeihlhokpjjaaSigRPack
import Derived.Test.YtepeihlhokpjjaaSigLive
namespace Go.Proofs.Ytepeihlhokpjjaa.P
open Go.RowKit Go.Proofs.YtepeihlhokpjjaaW.PrintWords Go.Proofs.YtepeihlhokpjjaaW.PrintLast Go.Proofs.YtepeihlhokpjjaaW.PrintMore
set_option linter.unusedVariables false
set_option linter.unusedSimpArgs false
theorem packL_len (wl : List Int) : ∀ (l : List S23) (i : Nat) (d : List Int), d.length = 8 → (packL wl l i d).1.length = 8
  | [], i, d, h => h
  | x :: r, i, d, h => by
    show (if (rawV (Sg.of x) (rd wl (i : Int))).2 = true then packL wl r (i + 1) (putV d (Sg.of x) (rawV (Sg.of x) (rd wl (i : Int))).1).1 else (zeros8, (i : Int), 1)).1.length = 8
    split
    · exact packL_len wl r (i + 1) _ (putV_len d _ _ h)
    · rfl
theorem packV_len (l : List S23) (wl : List Int) : (packV l wl).1.length = 8 := by
  unfold packV
  split
  · split
    · exact packL_len wl l 0 zeros8 rfl
    · rfl
  · rfl
theorem Longs_l0 (l : List Int) (hl : l.length ≤ 1000) : ∀ (m i : Nat), i + m = l.length → bellbuoyref35_Longs.l0 (m + 1) l l (i : Int) = some true
  | 0, i, h => by
    unfold bellbuoyref35_Longs.l0
    rw [if_neg (by omega)]
  | m + 1, i, h => by
    unfold bellbuoyref35_Longs.l0
    rw [if_pos (by omega), if_pos (by omega), if_pos (by omega), if_pos rfl, show wrap64 ((i : Int) + 1) = ((i + 1 : Nat) : Int) by rw [wr_small _ (by omega) (by omega)]; rfl]
    exact Longs_l0 l hl m (i + 1) (by omega)
theorem Longs_calls {l : List Int} (hl : l.length ≤ 1000) {A1 A2 : Option Addr} {c1 c2 : Nat} (h1 : l.length ≤ c1) (h2 : l.length ≤ c2) {w : World} (hA : (Kd.int .i64).C w A1 l.length l) (hB : (Kd.int .i64).C w A2 l.length l) :
    Calls Try.prog 32 #[.slice A1 l.length c1, .slice A2 l.length c2] w fun e w' => e = .returned (.bool true) ∧ Below w.heap.size w w' :=
  (bellbuoyref35_Longs.calls (l.length + 1) A1 c1 l A2 c2 l true w hA h1 hB h2 (by unfold bellbuoyref35_Longs.f; rw [if_pos rfl]; exact Longs_l0 l hl l.length 0 (by omega))).mono (fun e w' h => ⟨h.1, h.2.below⟩)
theorem unpackL_len (data : List Int) : ∀ (l : List S23) (i : Nat) (o : List Int), (unpackL data l i o).1.length ≤ o.length + l.length
  | [], i, o => Nat.le_refl _
  | s :: r, i, o => by
    show (if (worthV (Sg.of s) (getV data (Sg.of s))).2 = true then unpackL data r (i + 1) (o ++ [(worthV (Sg.of s) (getV data (Sg.of s))).1]) else ([], (i : Int), 9)).1.length ≤ _
    split
    · have := unpackL_len data r (i + 1) (o ++ [(worthV (Sg.of s) (getV data (Sg.of s))).1])
      simp only [List.length_append, List.length_cons, List.length_nil] at this ⊢
      omega
    · exact Nat.zero_le _
theorem unpackV_len (l : List S23) (data : List Int) : (unpackV l data).1.length ≤ 1000 := by
  unfold unpackV
  split
  · next h =>
    have := unpackL_len data l 0 []
    have := (checkV_spec h).2.2.2
    simp only [List.length_nil] at *
    omega
  · exact Nat.zero_le _
structure Qk (d0 d1 d2 d3 d4 d5 d6 d7 y0 y1 y2 y3 y4 y5 y6 y7 : Int) (b5 b11 b14 : Nat) (us : List Int) (A5 A6 : Option Addr) (w W : World) : Prop where
  kd : W.heap[b5]? = some (.cells (oct d0 d1 d2 d3 d4 d5 d6 d7) 24 (0, 0))
  ky : W.heap[b11]? = some (.cells (oct y0 y1 y2 y3 y4 y5 y6 y7) 24 (0, 0))
  kg : W.heap[b14]? = some (.cells (oct y0 y1 y2 y3 y4 y5 y6 y7) 24 (0, 0))
  u5 : (Kd.int .i64).C W A5 us.length us
  u6 : (Kd.int .i64).C W A6 us.length us
  B : Below w.heap.size w W
theorem Qk.below {d0 d1 d2 d3 d4 d5 d6 d7 y0 y1 y2 y3 y4 y5 y6 y7 : Int} {b5 b11 b14 : Nat} {us : List Int} {A5 A6 : Option Addr} {w W W' : World} (h : Qk d0 d1 d2 d3 d4 d5 d6 d7 y0 y1 y2 y3 y4 y5 y6 y7 b5 b11 b14 us A5 A6 w W) (hb : Below W.heap.size W W') : Qk d0 d1 d2 d3 d4 d5 d6 d7 y0 y1 y2 y3 y4 y5 y6 y7 b5 b11 b14 us A5 A6 w W' :=
  ⟨blk_below h.kd hb, blk_below h.ky hb, blk_below h.kg hb, Kd.C_below h.u5 hb, Kd.C_below h.u6 hb, below_step h.B hb⟩
set_option maxHeartbeats 40000000 in
set_option maxRecDepth 100000 in
theorem Checks_core (l : List S23) (A : Option Addr) (cp : Nat) (wl : List Int) (A2 : Option Addr) (cp2 : Nat) (d0 d1 d2 d3 d4 d5 d6 d7 : Int) (w : World) (hcp : l.length ≤ cp) (hC : Kd.C k23 w A l.length l) (hW : (Kd.int .i64).C w A2 wl.length wl) (hc2 : wl.length ≤ cp2) (hS : ∀ x ∈ l, In64 x.f4 ∧ In64 x.f5) (hI : ∀ x ∈ wl, In64 x) (hd : Byts [d0, d1, d2, d3, d4, d5, d6, d7]) :
    Calls Try.prog 4 #[.slice A l.length cp, .slice A2 wl.length cp2, .agg (oct d0 d1 d2 d3 d4 d5 d6 d7)] w fun e w' => e = .returned (.bool true) ∧ Below w.heap.size w w' := by
  have hu23 := Try.underlying23
  have hu24 := Try.underlying24
  have hu39 := Try.underlying39
  have hu40 := Try.underlying40
  have HC := Aside0.mk hC
  have HW := Aside0.mk hW
  have C1 := Aside0.mk (fun w' h => Check_walk l A cp ((wl.length : Int) % 10) w' h)
  have C2 := Aside0.mk (fun w' h => RCheck_walk l A cp ((wl.length : Int) % 10) w' h hcp)
  generalize checkV l ((wl.length : Int) % 10) = cv at C1 C2
  obtain ⟨cn, ce⟩ := cv
  dsimp only at C1 C2
  have P1 := fun w' h1 h2 => Pack_walk l A cp wl A2 cp2 w' h1 h2 hS hI
  have P2 := fun w' h1 h2 => RPack_walk l A cp wl A2 cp2 w' h1 hcp h2 hS hI
  have PL := packV_len l wl
  generalize packV l wl = pv at P1 P2 PL
  obtain ⟨y, pn, pe⟩ := pv
  dsimp only at P1 P2 PL
  obtain ⟨y0, y1, y2, y3, y4, y5, y6, y7, rfl⟩ := eight PL
  clear PL
  have P1 : Aside0 (∀ w', Kd.C k23 w' A l.length l → (Kd.int .i64).C w' A2 wl.length wl → Calls Try.prog 26 #[.slice A l.length cp, .slice A2 wl.length cp2] w' fun e w'' => e = .returned (.tuple #[.agg (oct y0 y1 y2 y3 y4 y5 y6 y7), .int .i64 pn, .int .i64 pe]) ∧ Below w'.heap.size w' w'') := ⟨P1⟩
  have P2 : Aside0 (∀ w', Kd.C k23 w' A l.length l → (Kd.int .i64).C w' A2 wl.length wl → Calls Try.prog 27 #[.slice A l.length cp, .slice A2 wl.length cp2] w' fun e w'' => e = .returned (.tuple #[.agg (oct y0 y1 y2 y3 y4 y5 y6 y7), .int .i64 pn, .int .i64 pe]) ∧ Below w'.heap.size w' w'') := ⟨P2⟩
  have U1 := fun w' h => Unpack_walk8 l A cp d0 d1 d2 d3 d4 d5 d6 d7 w' h hS
  have U2 := fun w' h => RUnpack_walk8 l A cp d0 d1 d2 d3 d4 d5 d6 d7 w' h hcp hd hS
  have UL := Aside0.mk (unpackV_len l [d0, d1, d2, d3, d4, d5, d6, d7])
  generalize unpackV l [d0, d1, d2, d3, d4, d5, d6, d7] = uv at U1 U2 UL
  obtain ⟨us, un, ue⟩ := uv
  dsimp only at U1 U2 UL
  have U1 := Aside0.mk U1
  have U2 := Aside0.mk U2
  have HS := Aside0.mk hS
  clear hC hW hS hI hd hc2 hcp
  have E1 : Aside0 ((cn == cn) = true ∧ (ce == ce) = true ∧ (pn == pn) = true ∧ (pe == pe) = true ∧ (un == un) = true ∧ (ue == ue) = true) := ⟨by simp⟩
  have KD := Aside0.mk (blk_new w (.cells (oct d0 d1 d2 d3 d4 d5 d6 d7) 24))
  have B := Aside0.mk (below_alloc (Below.refl w.heap.size w) (.cells (oct d0 d1 d2 d3 d4 d5 d6 d7) 24))
  by_cases h12 : l.length ≤ 12
  case' pos =>
    have u1 : decide ((l.length : Int) > 12) = false := decide_eq_false (by omega)
    have u1b : decide (l.length > 12) = false := decide_eq_false (by omega)
  case' neg =>
    have u1 : decide ((l.length : Int) > 12) = true := decide_eq_true (by omega)
    have u1b : decide (l.length > 12) = true := decide_eq_true (by omega)
    by_cases h64 : l.length ≤ 64
    case' pos =>
      have u2 : decide ((l.length : Int) ≤ 64) = true := decide_eq_true (by omega)
      have u2b : decide (l.length ≤ 64) = true := decide_eq_true (by omega)
    case' neg =>
      have u2 : decide ((l.length : Int) ≤ 64) = false := decide_eq_false (by omega)
      have u2b : decide (l.length ≤ 64) = false := decide_eq_false (by omega)
  all_goals go_enter Try.func4, Try.ntmps4
  all_goals go_wp2_with fail
  rotate_left
  focus
    (with_reducible refine (live_calls _).mono ?_)
    rintro e W5 ⟨rfl, hb⟩
    have nB := Aside0.mk (below_step B.out hb)
    clear hb B
    go_wp2
    go_ret
    exact ⟨rfl, nB.out⟩
  all_goals (
    clear u1 u1b h12
    (with_reducible refine (C1.out _ (Kd.C_below HC.out B.out)).mono ?_)
    rintro e W1 ⟨rfl, hb⟩
    have nD := Aside0.mk (blk_below KD.out hb)
    have nB := Aside0.mk (below_step B.out hb)
    clear hb KD B C1
    go_wp2_with fail
    (with_reducible refine (C2.out _ (Kd.C_below HC.out nB.out)).mono ?_)
    rintro e W2 ⟨rfl, hb⟩
    have KD := Aside0.mk (blk_below nD.out hb)
    have B := Aside0.mk (below_step nB.out hb)
    clear hb nD nB C2
    go_wp2_with fail
    (with_reducible refine (P1.out _ (Kd.C_below HC.out B.out) (Kd.C_below HW.out B.out)).mono ?_)
    rintro e W3 ⟨rfl, hb⟩
    have nD := Aside0.mk (blk_below (blk_below KD.out hb) (below_alloc (Below.refl _ _) (.cells (oct y0 y1 y2 y3 y4 y5 y6 y7) 24)))
    have KY := Aside0.mk (blk_new W3 (.cells (oct y0 y1 y2 y3 y4 y5 y6 y7) 24))
    have nB := Aside0.mk (below_alloc (below_step B.out hb) (.cells (oct y0 y1 y2 y3 y4 y5 y6 y7) 24))
    clear hb KD B P1
    go_wp2_with fail
    generalize W3.alloc (.cells (oct y0 y1 y2 y3 y4 y5 y6 y7) 24) = W4 at KY nD nB ⊢
    generalize W3.heap.size = b11 at KY ⊢
    (with_reducible refine (P2.out _ (Kd.C_below HC.out nB.out) (Kd.C_below HW.out nB.out)).mono ?_)
    rintro e W5 ⟨rfl, hb⟩
    have KD := Aside0.mk (blk_below (blk_below nD.out hb) (below_alloc (Below.refl _ _) (.cells (oct y0 y1 y2 y3 y4 y5 y6 y7) 24)))
    have nY := Aside0.mk (blk_below (blk_below KY.out hb) (below_alloc (Below.refl _ _) (.cells (oct y0 y1 y2 y3 y4 y5 y6 y7) 24)))
    have KG := Aside0.mk (blk_new W5 (.cells (oct y0 y1 y2 y3 y4 y5 y6 y7) 24))
    have B := Aside0.mk (below_alloc (below_step nB.out hb) (.cells (oct y0 y1 y2 y3 y4 y5 y6 y7) 24))
    clear hb nD nB P2 KY
    obtain ⟨e0, e1, e2, e3, e4, e5, e6, e7⟩ := oct_cells KD.out
    go_wp2_with fail
    generalize W5.alloc (.cells (oct y0 y1 y2 y3 y4 y5 y6 y7) 24) = W6 at KD nY KG B e0 e1 e2 e3 e4 e5 e6 e7 ⊢
    generalize W5.heap.size = b14 at KG ⊢
    (with_reducible refine (U1.out _ (Kd.C_below HC.out B.out)).mono ?_)
    rintro e W7 ⟨v, rfl, hR, hb⟩
    obtain ⟨A5, c5, ev, hc5, hC5⟩ := Kd.R_reads hR
    subst ev
    have nD := Aside0.mk (blk_below KD.out hb)
    have nY2 := Aside0.mk (blk_below nY.out hb)
    have nG := Aside0.mk (blk_below KG.out hb)
    have nB := Aside0.mk (below_step B.out hb)
    have R5 := Aside0.mk hC5
    clear hb hR hC5 KD B KG nY e0 e1 e2 e3 e4 e5 e6 e7 U1
    obtain ⟨e0, e1, e2, e3, e4, e5, e6, e7⟩ := oct_cells nD.out
    go_wp2_with fail
    (with_reducible refine (U2.out _ (Kd.C_below HC.out nB.out)).mono ?_)
    rintro e W8 ⟨v, rfl, hR, hb⟩
    obtain ⟨A6, c6, ev, hc6, hC6⟩ := Kd.R_reads hR
    subst ev
    have Z : Aside0 (Qk d0 d1 d2 d3 d4 d5 d6 d7 y0 y1 y2 y3 y4 y5 y6 y7 w.heap.size b11 b14 us A5 A6 w W8) := ⟨⟨blk_below nD.out hb, blk_below nY2.out hb, blk_below nG.out hb, Kd.C_below R5.out hb, hC6, below_step nB.out hb⟩⟩
    have HC5 := Aside0.mk hc5
    have HC6 := Aside0.mk hc6
    clear hb hR hC6 nD nY2 nG nB R5 e0 e1 e2 e3 e4 e5 e6 e7 U2 hc5 hc6
    by_cases h2 : l.length < 2
    case' pos =>
      have u5 : decide ((l.length : Int) < 2) = true := decide_eq_true (by omega)
      have u5b : decide (l.length < 2) = true := decide_eq_true h2
      clear h2
      go_wp2
      refine wp_region_held_drew (S := (fun _ : World => True)) (by kernel_rfl) trivial (fun hS0 => ?_)
      refine wpAnyH_take (i := 0) (oi := ⟨some 77, _, _, _, _, _⟩) (v := (.slice A l.length cp)) rfl (by kernel_rfl) (by kernel_rfl) (by kernel_rfl) (fun _ _ _ h => h) (Or.inl ⟨by rfl, fun w hSw => by (try dsimp only at hSw); go_simp⟩) (by assumption) ?_
      try simp only [Act.put, List.setIfInBounds_toArray, List.set_cons_zero, List.set_cons_succ]
      refine wpAnyH_take (i := 1) (oi := ⟨some 78, _, _, _, _, _⟩) (v := (.int .i64 (l.length : Int))) rfl (by kernel_rfl) (by kernel_rfl) (by kernel_rfl) (fun _ _ _ h => h) (Or.inl ⟨by rfl, fun w hSw => by (try dsimp only at hSw); go_simp⟩) (by assumption) ?_
      try simp only [Act.put, List.setIfInBounds_toArray, List.set_cons_zero, List.set_cons_succ]
      refine wpAnyH_take (i := 2) (oi := ⟨some 79, _, _, _, _, _⟩) (v := (.bool true)) rfl (by kernel_rfl) (by kernel_rfl) (by kernel_rfl) (fun _ _ _ h => h) (Or.inl ⟨by rfl, fun w hSw => by (try dsimp only at hSw); go_simp⟩) (by assumption) ?_
      try simp only [Act.put, List.setIfInBounds_toArray, List.set_cons_zero, List.set_cons_succ]
      refine wpAnyH_take (i := 3) (oi := ⟨some 80, _, _, _, _, _⟩) (v := (.bool true)) rfl (by kernel_rfl) (by kernel_rfl) (by kernel_rfl) (fun _ _ _ h => h) (Or.inl ⟨by rfl, fun w hSw => by (try dsimp only at hSw); go_simp⟩) (by assumption) ?_
      try simp only [Act.put, List.setIfInBounds_toArray, List.set_cons_zero, List.set_cons_succ]
      refine wpAnyH_take (i := 4) (oi := ⟨some 81, _, _, _, _, _⟩) (v := undef) rfl (by kernel_rfl) (by kernel_rfl) (by kernel_rfl) (fun _ _ _ h => h) (Or.inr ⟨by rfl, rfl⟩) (by assumption) ?_
      try simp only [Act.put, List.setIfInBounds_toArray, List.set_cons_zero, List.set_cons_succ]
      refine wpAnyH_take (i := 5) (oi := ⟨some 82, _, _, _, _, _⟩) (v := undef) rfl (by kernel_rfl) (by kernel_rfl) (by kernel_rfl) (fun _ _ _ h => h) (Or.inr ⟨by rfl, rfl⟩) (by assumption) ?_
      try simp only [Act.put, List.setIfInBounds_toArray, List.set_cons_zero, List.set_cons_succ]
      refine wpAnyH_take (i := 6) (oi := ⟨some 83, _, _, _, _, _⟩) (v := undef) rfl (by kernel_rfl) (by kernel_rfl) (by kernel_rfl) (fun _ _ _ h => h) (Or.inr ⟨by rfl, rfl⟩) (by assumption) ?_
      try simp only [Act.put, List.setIfInBounds_toArray, List.set_cons_zero, List.set_cons_succ]
      refine wpAnyH_take (i := 7) (oi := ⟨some 84, _, _, _, _, _⟩) (v := undef) rfl (by kernel_rfl) (by kernel_rfl) (by kernel_rfl) (fun _ _ _ h => h) (Or.inr ⟨by rfl, rfl⟩) (by assumption) ?_
      try simp only [Act.put, List.setIfInBounds_toArray, List.set_cons_zero, List.set_cons_succ]
      refine wpAnyH_take (i := 8) (oi := ⟨some 85, _, _, _, _, _⟩) (v := undef) rfl (by kernel_rfl) (by kernel_rfl) (by kernel_rfl) (fun _ _ _ h => h) (Or.inr ⟨by rfl, rfl⟩) (by assumption) ?_
      try simp only [Act.put, List.setIfInBounds_toArray, List.set_cons_zero, List.set_cons_succ]
      refine wpAnyH_take (i := 9) (oi := ⟨some 86, _, _, _, _, _⟩) (v := undef) rfl (by kernel_rfl) (by kernel_rfl) (by kernel_rfl) (fun _ _ _ h => h) (Or.inr ⟨by rfl, rfl⟩) (by assumption) ?_
      try simp only [Act.put, List.setIfInBounds_toArray, List.set_cons_zero, List.set_cons_succ]
      refine wpAnyH_take (i := 10) (oi := ⟨some 87, _, _, _, _, _⟩) (v := undef) rfl (by kernel_rfl) (by kernel_rfl) (by kernel_rfl) (fun _ _ _ h => h) (Or.inr ⟨by rfl, rfl⟩) (by assumption) ?_
      try simp only [Act.put, List.setIfInBounds_toArray, List.set_cons_zero, List.set_cons_succ]
      refine wpAnyH_take (i := 11) (oi := ⟨some 88, _, _, _, _, _⟩) (v := undef) rfl (by kernel_rfl) (by kernel_rfl) (by kernel_rfl) (fun _ _ _ h => h) (Or.inr ⟨by rfl, rfl⟩) (by assumption) ?_
      try simp only [Act.put, List.setIfInBounds_toArray, List.set_cons_zero, List.set_cons_succ]
      refine wpAnyH_take (i := 12) (oi := ⟨some 89, _, _, _, _, _⟩) (v := undef) rfl (by kernel_rfl) (by kernel_rfl) (by kernel_rfl) (fun _ _ _ h => h) (Or.inr ⟨by rfl, rfl⟩) (by assumption) ?_
      try simp only [Act.put, List.setIfInBounds_toArray, List.set_cons_zero, List.set_cons_succ]
      refine wpAnyH_take (i := 13) (oi := ⟨some 90, _, _, _, _, _⟩) (v := undef) rfl (by kernel_rfl) (by kernel_rfl) (by kernel_rfl) (fun _ _ _ h => h) (Or.inr ⟨by rfl, rfl⟩) (by assumption) ?_
      try simp only [Act.put, List.setIfInBounds_toArray, List.set_cons_zero, List.set_cons_succ]
      refine wpAnyH_take (i := 14) (oi := ⟨some 91, _, _, _, _, _⟩) (v := undef) rfl (by kernel_rfl) (by kernel_rfl) (by kernel_rfl) (fun _ _ _ h => h) (Or.inr ⟨by rfl, rfl⟩) (by assumption) ?_
      try simp only [Act.put, List.setIfInBounds_toArray, List.set_cons_zero, List.set_cons_succ]
      refine wpAnyH_take (i := 15) (oi := ⟨some 92, _, _, _, _, _⟩) (v := undef) rfl (by kernel_rfl) (by kernel_rfl) (by kernel_rfl) (fun _ _ _ h => h) (Or.inr ⟨by rfl, rfl⟩) (by assumption) ?_
      try simp only [Act.put, List.setIfInBounds_toArray, List.set_cons_zero, List.set_cons_succ]
      refine wpAnyH_take (i := 16) (oi := ⟨some 93, _, _, _, _, _⟩) (v := undef) rfl (by kernel_rfl) (by kernel_rfl) (by kernel_rfl) (fun _ _ _ h => h) (Or.inr ⟨by rfl, rfl⟩) (by assumption) ?_
      try simp only [Act.put, List.setIfInBounds_toArray, List.set_cons_zero, List.set_cons_succ]
      refine wpAnyH_take (i := 17) (oi := ⟨some 94, _, _, _, _, _⟩) (v := undef) rfl (by kernel_rfl) (by kernel_rfl) (by kernel_rfl) (fun _ _ _ h => h) (Or.inr ⟨by rfl, rfl⟩) (by assumption) ?_
      try simp only [Act.put, List.setIfInBounds_toArray, List.set_cons_zero, List.set_cons_succ]
      refine wpAnyH_take (i := 18) (oi := ⟨some 95, _, _, _, _, _⟩) (v := undef) rfl (by kernel_rfl) (by kernel_rfl) (by kernel_rfl) (fun _ _ _ h => h) (Or.inr ⟨by rfl, rfl⟩) (by assumption) ?_
      try simp only [Act.put, List.setIfInBounds_toArray, List.set_cons_zero, List.set_cons_succ]
      refine wpAnyH_take (i := 19) (oi := ⟨some 96, _, _, _, _, _⟩) (v := (.bool true)) rfl (by kernel_rfl) (by kernel_rfl) (by kernel_rfl) (fun _ _ _ h => h) (Or.inl ⟨by rfl, fun w hSw => by (try dsimp only at hSw); go_simp⟩) (by assumption) ?_
      try simp only [Act.put, List.setIfInBounds_toArray, List.set_cons_zero, List.set_cons_succ]
      refine wpAnyH_take (i := 20) (oi := ⟨some 23, _, _, _, _, _⟩) (v := (.bool true)) rfl (by kernel_rfl) (by kernel_rfl) (by kernel_rfl) (fun _ _ _ h => h) (Or.inl ⟨by rfl, fun w hSw => by (try dsimp only at hSw); go_simp⟩) (by assumption) ?_
      try simp only [Act.put, List.setIfInBounds_toArray, List.set_cons_zero, List.set_cons_succ]
      refine wpAnyH_done (by kernel_rfl) ?_ _
      clear u5 u5b
    case' neg =>
      have u5 : decide ((l.length : Int) < 2) = false := decide_eq_false (by omega)
      have u5b : decide (l.length < 2) = false := decide_eq_false h2
      have q0 : ((0 : Int) < (l.length : Int)) = True := eq_true (by omega)
      have q1 : ((1 : Int) < (l.length : Int)) = True := eq_true (by omega)
      have q0b : (0 < l.length) = True := eq_true (by omega)
      have q1b : (1 < l.length) = True := eq_true (by omega)
      obtain ⟨ad, ea, x0, x1, x2, x3, x4, x5⟩ := at_T23 (Kd.C_below HC.out Z.out.B) 0 (by omega) (by omega)
      cases ea
      obtain ⟨ad', ea, z0, z1, z2, z3, z4, z5⟩ := at_T23 (Kd.C_below HC.out Z.out.B) 1 (by omega) (by omega)
      cases ea
      clear h2
      generalize rd_T23 l 0 = s0 at x0 x1 x2 x3 x4 x5
      generalize rd_T23 l 1 = s1 at z0 z1 z2 z3 z4 z5
      obtain ⟨g0, g1, g2, g3, g4, g5⟩ := s0
      obtain ⟨h0, h1, h2, h3, h4, h5⟩ := s1
      have e0 : Int.toNat 0 * 6 = 0 := rfl
      have e1 : Int.toNat 1 * 6 = 6 := rfl
      rw [e0] at x0 x1 x2 x3 x4 x5
      rw [e1] at z0 z1 z2 z3 z4 z5
      dsimp only at x0 x1 x2 x3 x4 x5 z0 z1 z2 z3 z4 z5
      clear e0 e1
      have x0 : W8.cell? ad = some (.int .i64 g0) := x0
      have z0 : W8.cell? ⟨ad.block, ad.off + 6, none⟩ = some (.int .i64 h0) := z0
      have x1 : W8.cell? ⟨ad.block, ad.off + 1, none⟩ = some (.int .i64 g1) := x1
      have z1 : W8.cell? ⟨ad.block, ad.off + 6 + 1, none⟩ = some (.int .i64 h1) := z1
      have x2 : W8.cell? ⟨ad.block, ad.off + 2, none⟩ = some (.bool g2) := x2
      have z2 : W8.cell? ⟨ad.block, ad.off + 6 + 2, none⟩ = some (.bool h2) := z2
      have x3 : W8.cell? ⟨ad.block, ad.off + 3, none⟩ = some (.bool g3) := x3
      have z3 : W8.cell? ⟨ad.block, ad.off + 6 + 3, none⟩ = some (.bool h3) := z3
      have x4 : W8.cell? ⟨ad.block, ad.off + 4, none⟩ = some (.int .i64 g4) := x4
      have z4 : W8.cell? ⟨ad.block, ad.off + 6 + 4, none⟩ = some (.int .i64 h4) := z4
      have x5 : W8.cell? ⟨ad.block, ad.off + 5, none⟩ = some (.int .i64 g5) := x5
      have z5 : W8.cell? ⟨ad.block, ad.off + 6 + 5, none⟩ = some (.int .i64 h5) := z5
      have M1 := fun w => Meet_walk (Sg.of ⟨g0, g1, g2, g3, g4, g5⟩) (Sg.of ⟨h0, h1, h2, h3, h4, h5⟩) w
      have M2 := fun w => RMeet_walk (Sg.of ⟨g0, g1, g2, g3, g4, g5⟩) (Sg.of ⟨h0, h1, h2, h3, h4, h5⟩) w
      rw [← meet_same] at M2
      generalize meetV (Sg.of ⟨g0, g1, g2, g3, g4, g5⟩) (Sg.of ⟨h0, h1, h2, h3, h4, h5⟩) = mv at M1 M2
      have M1 : Aside0 (∀ w, Calls Try.prog 30 #[.agg #[.int .i64 g0, .int .i64 g1, .bool g2, .bool g3, .int .i64 g4, .int .i64 g5], .agg #[.int .i64 h0, .int .i64 h1, .bool h2, .bool h3, .int .i64 h4, .int .i64 h5]] w fun e w' => e = .returned (.bool mv) ∧ Below w.heap.size w w') := ⟨M1⟩
      have M2 : Aside0 (∀ w, Calls Try.prog 31 #[.agg #[.int .i64 g0, .int .i64 g1, .bool g2, .bool g3, .int .i64 g4, .int .i64 g5], .agg #[.int .i64 h0, .int .i64 h1, .bool h2, .bool h3, .int .i64 h4, .int .i64 h5]] w fun e w' => e = .returned (.bool mv) ∧ Below w.heap.size w w') := ⟨M2⟩
      have qm : (mv == mv) = true := by simp
      go_wp2
      go_region_held3 (fun w' => w'.cell? ad = some (.int .i64 g0) ∧ w'.cell? ⟨ad.block, ad.off + 1, none⟩ = some (.int .i64 g1) ∧ w'.cell? ⟨ad.block, ad.off + 2, none⟩ = some (.bool g2) ∧ w'.cell? ⟨ad.block, ad.off + 3, none⟩ = some (.bool g3) ∧ w'.cell? ⟨ad.block, ad.off + 4, none⟩ = some (.int .i64 g4) ∧ w'.cell? ⟨ad.block, ad.off + 5, none⟩ = some (.int .i64 g5) ∧ w'.cell? ⟨ad.block, ad.off + 6, none⟩ = some (.int .i64 h0) ∧ w'.cell? ⟨ad.block, ad.off + 6 + 1, none⟩ = some (.int .i64 h1) ∧ w'.cell? ⟨ad.block, ad.off + 6 + 2, none⟩ = some (.bool h2) ∧ w'.cell? ⟨ad.block, ad.off + 6 + 3, none⟩ = some (.bool h3) ∧ w'.cell? ⟨ad.block, ad.off + 6 + 4, none⟩ = some (.int .i64 h4) ∧ w'.cell? ⟨ad.block, ad.off + 6 + 5, none⟩ = some (.int .i64 h5)) (go_keep)
        (first
          | (go_at_call 30; (with_reducible refine (M1.out _).mono ?_); rintro e W9 ⟨rfl, hb⟩; obtain ⟨hb2, hq⟩ : ∃ _ : Below W8.heap.size W8 W9, True := ⟨(by first | exact hb | exact below_step (below_drew1 (Below.refl _ _)) hb), trivial⟩; have n0 := Aside0.mk (Z.out.below hb2); have m0 := (hb2.cell (World.block_lt_of_cell? W8 _ x0)).trans x0; have r0 := (hb2.cell (World.block_lt_of_cell? W8 _ z0)).trans z0; have m1 := (hb2.cell (World.block_lt_of_cell? W8 _ x1)).trans x1; have r1 := (hb2.cell (World.block_lt_of_cell? W8 _ z1)).trans z1; have m2 := (hb2.cell (World.block_lt_of_cell? W8 _ x2)).trans x2; have r2 := (hb2.cell (World.block_lt_of_cell? W8 _ z2)).trans z2; have m3 := (hb2.cell (World.block_lt_of_cell? W8 _ x3)).trans x3; have r3 := (hb2.cell (World.block_lt_of_cell? W8 _ z3)).trans z3; have m4 := (hb2.cell (World.block_lt_of_cell? W8 _ x4)).trans x4; have r4 := (hb2.cell (World.block_lt_of_cell? W8 _ z4)).trans z4; have m5 := (hb2.cell (World.block_lt_of_cell? W8 _ x5)).trans x5; have r5 := (hb2.cell (World.block_lt_of_cell? W8 _ z5)).trans z5; clear hb hb2 hq Z x0 z0 x1 z1 x2 z2 x3 z3 x4 z4 x5 z5; have Z := n0; clear n0; have x0 := m0; have z0 := r0; have x1 := m1; have z1 := r1; have x2 := m2; have z2 := r2; have x3 := m3; have z3 := r3; have x4 := m4; have z4 := r4; have x5 := m5; have z5 := r5; clear m0 r0 m1 r1 m2 r2 m3 r3 m4 r4 m5 r5)
          | (go_at_call 31; (with_reducible refine (M2.out _).mono ?_); rintro e W10 ⟨rfl, hb⟩; obtain ⟨hb2, hq⟩ : ∃ _ : Below W9.heap.size W9 W10, True := ⟨(by first | exact hb | exact below_step (below_drew1 (Below.refl _ _)) hb), trivial⟩; have n0 := Aside0.mk (Z.out.below hb2); have m0 := (hb2.cell (World.block_lt_of_cell? W9 _ x0)).trans x0; have r0 := (hb2.cell (World.block_lt_of_cell? W9 _ z0)).trans z0; have m1 := (hb2.cell (World.block_lt_of_cell? W9 _ x1)).trans x1; have r1 := (hb2.cell (World.block_lt_of_cell? W9 _ z1)).trans z1; have m2 := (hb2.cell (World.block_lt_of_cell? W9 _ x2)).trans x2; have r2 := (hb2.cell (World.block_lt_of_cell? W9 _ z2)).trans z2; have m3 := (hb2.cell (World.block_lt_of_cell? W9 _ x3)).trans x3; have r3 := (hb2.cell (World.block_lt_of_cell? W9 _ z3)).trans z3; have m4 := (hb2.cell (World.block_lt_of_cell? W9 _ x4)).trans x4; have r4 := (hb2.cell (World.block_lt_of_cell? W9 _ z4)).trans z4; have m5 := (hb2.cell (World.block_lt_of_cell? W9 _ x5)).trans x5; have r5 := (hb2.cell (World.block_lt_of_cell? W9 _ z5)).trans z5; clear hb hb2 hq Z x0 z0 x1 z1 x2 z2 x3 z3 x4 z4 x5 z5; have Z := n0; clear n0; have x0 := m0; have z0 := r0; have x1 := m1; have z1 := r1; have x2 := m2; have z2 := r2; have x3 := m3; have z3 := r3; have x4 := m4; have z4 := r4; have x5 := m5; have z5 := r5; clear m0 r0 m1 r1 m2 r2 m3 r3 m4 r4 m5 r5))
      clear u5 u5b q0 q1 q0b q1b
    all_goals (
      go_wp2_with fail
      (with_reducible refine (live_calls _).mono ?_)
      rintro e W11 ⟨rfl, hb⟩
      have nZ : Aside0 (Qk d0 d1 d2 d3 d4 d5 d6 d7 y0 y1 y2 y3 y4 y5 y6 y7 w.heap.size b11 b14 us A5 A6 w W11) := ⟨by first | exact Z.out.below hb | exact (Z.out.below (below_drew1 (Below.refl _ _))).below hb⟩
      clear hb Z
      obtain ⟨f0, f1, f2, f3, f4, f5, f6, f7⟩ := oct_cells nZ.out.ky
      obtain ⟨r0, r1, r2, r3, r4, r5, r6, r7⟩ := oct_cells nZ.out.kg
      obtain ⟨qa, qb, qc, qd, qe, qf⟩ := E1.out
      have eo := eqO y0 y1 y2 y3 y4 y5 y6 y7
      go_wp2_with fail
      (with_reducible refine (Longs_calls UL.out HC5.out HC6.out nZ.out.u5 nZ.out.u6).mono ?_)
      rintro e W12 ⟨rfl, hb⟩
      have B := Aside0.mk (below_step nZ.out.B hb)
      clear hb nZ f0 f1 f2 f3 f4 f5 f6 f7 r0 r1 r2 r3 r4 r5 r6 r7
      go_wp2
      go_ret
      exact ⟨rfl, B.out⟩))
theorem rows_of {P : Nat → S23 → Prop} : ∀ (n : Nat), (∀ i, i < n → ∃ x, P i x) → ∃ l : List S23, l.length = n ∧ ∀ i x, l[i]? = some x → P i x
  | 0, _ => ⟨[], rfl, fun i x h => by simp at h⟩
  | n + 1, h => by
    obtain ⟨l, hl, hp⟩ := rows_of n (fun i hi => h i (by omega))
    obtain ⟨x, hx⟩ := h n (by omega)
    refine ⟨l ++ [x], by simp [hl], fun i y hy => ?_⟩
    by_cases hi : i < l.length
    · rw [List.getElem?_append_left hi] at hy
      exact hp i y hy
    · rw [List.getElem?_append_right (by omega)] at hy
      have hi2 : i - l.length = 0 := by
        have := (List.getElem?_eq_some_iff.1 hy).1
        simp at this
        omega
      rw [hi2] at hy
      have hy : x = y := by simpa using hy
      subst hy
      rw [show i = n by omega]
      exact hx
/-- A slice of signals in a law's arguments. -/
theorem sigs_of {w : World} {a : Option Addr} {len cap : Nat} (h : (a = none ∧ len = 0 ∧ cap = 0) ∨ ∃ x, a = some x ∧ len ≤ cap ∧ cap ≤ maxLen ∧ ∀ i, i < len → ∃ (z0 : Int) (z1 : Int) (z2 : Bool) (z3 : Bool) (z4 : Int) (z5 : Int), w.cell? (x.add (i * 6 + 0)) = some (.int .i64 z0) ∧ w.cell? (x.add (i * 6 + 1)) = some (.int .i64 z1) ∧ w.cell? (x.add (i * 6 + 2)) = some (.bool z2) ∧ w.cell? (x.add (i * 6 + 3)) = some (.bool z3) ∧ w.cell? (x.add (i * 6 + 4)) = some (.int .i64 z4) ∧ w.cell? (x.add (i * 6 + 5)) = some (.int .i64 z5) ∧ (Lit.int .i64 z0).wf = true ∧ (Lit.int .i64 z1).wf = true ∧ (Lit.int .i64 z4).wf = true ∧ (Lit.int .i64 z5).wf = true) :
    ∃ l : List S23, l.length = len ∧ Kd.C k23 w a len l ∧ (∀ x ∈ l, In64 x.f4 ∧ In64 x.f5) ∧ len ≤ cap := by
  rcases h with ⟨rfl, rfl, rfl⟩ | ⟨x, rfl, hlc, hm, hr⟩
  · exact ⟨[], rfl, ⟨rfl, by decide, fun h => absurd h (by decide)⟩, fun x hx => (nomatch hx), Nat.le_refl _⟩
  · obtain ⟨l, hl, hp⟩ := rows_of (P := fun i z => w.cell? (x.add (i * 6 + 0)) = some (.int .i64 z.f0) ∧ w.cell? (x.add (i * 6 + 1)) = some (.int .i64 z.f1) ∧ w.cell? (x.add (i * 6 + 2)) = some (.bool z.f2) ∧ w.cell? (x.add (i * 6 + 3)) = some (.bool z.f3) ∧ w.cell? (x.add (i * 6 + 4)) = some (.int .i64 z.f4) ∧ w.cell? (x.add (i * 6 + 5)) = some (.int .i64 z.f5) ∧ In64 z.f4 ∧ In64 z.f5) len (fun i hi => by
      obtain ⟨z0, z1, z2, z3, z4, z5, h0, h1, h2, h3, h4, h5, _, _, w4, w5⟩ := hr i hi
      simp only [Lit.wf, Bool.and_eq_true, decide_eq_true_eq] at w4 w5
      exact ⟨⟨z0, z1, z2, z3, z4, z5⟩, h0, h1, h2, h3, h4, h5, w4, w5⟩)
    refine ⟨l, hl, ⟨hl, by simp only [maxLen] at hm; omega, fun _ => ⟨x, rfl, fun j p hj => ?_⟩⟩, fun z hz => ?_, hlc⟩
    · obtain ⟨h0, h1, h2, h3, h4, h5, _, _⟩ := hp j p hj
      refine ⟨_, rfl, k23_mk w p, fun i u hi => ?_⟩
      show w.cell? (x.add (j * 6 + i)) = some u
      match i, hi with
      | 0, hi => rw [h0]; exact hi
      | 1, hi => rw [h1]; exact hi
      | 2, hi => rw [h2]; exact hi
      | 3, hi => rw [h3]; exact hi
      | 4, hi => rw [h4]; exact hi
      | 5, hi => rw [h5]; exact hi
      | n + 6, hi => simp at hi
    · obtain ⟨j, hj⟩ := List.getElem?_of_mem hz
      exact (hp j z hj).2.2.2.2.2.2
theorem byts_of2 {d0 d1 d2 d3 d4 d5 d6 d7 : Int} (h0 : (Lit.int .u8 d0).wf = true) (h1 : (Lit.int .u8 d1).wf = true) (h2 : (Lit.int .u8 d2).wf = true) (h3 : (Lit.int .u8 d3).wf = true) (h4 : (Lit.int .u8 d4).wf = true) (h5 : (Lit.int .u8 d5).wf = true) (h6 : (Lit.int .u8 d6).wf = true) (h7 : (Lit.int .u8 d7).wf = true) : Byts [d0, d1, d2, d3, d4, d5, d6, d7] := by
  simp only [Lit.wf, Bool.and_eq_true, decide_eq_true_eq] at h0 h1 h2 h3 h4 h5 h6 h7
  refine ⟨rfl, fun x hx => ?_⟩
  simp only [List.mem_cons, List.not_mem_nil, or_false] at hx
  rcases hx with rfl | rfl | rfl | rfl | rfl | rfl | rfl | rfl <;> assumption
theorem SignalChecks_walk (a0 : Option Addr) (len0 cap0 : Nat) (a1 : Option Addr) (len1 cap1 : Nat) (z1 : List Int) (a2_0 a2_1 a2_2 a2_3 a2_4 a2_5 a2_6 a2_7 : Int) (w : World) (w0 : (a0 = none ∧ len0 = 0 ∧ cap0 = 0) ∨ ∃ x, a0 = some x ∧ len0 ≤ cap0 ∧ cap0 ≤ maxLen ∧ ∀ i, i < len0 → ∃ (z0 : Int) (z1 : Int) (z2 : Bool) (z3 : Bool) (z4 : Int) (z5 : Int), w.cell? (x.add (i * 6 + 0)) = some (.int .i64 z0) ∧ w.cell? (x.add (i * 6 + 1)) = some (.int .i64 z1) ∧ w.cell? (x.add (i * 6 + 2)) = some (.bool z2) ∧ w.cell? (x.add (i * 6 + 3)) = some (.bool z3) ∧ w.cell? (x.add (i * 6 + 4)) = some (.int .i64 z4) ∧ w.cell? (x.add (i * 6 + 5)) = some (.int .i64 z5) ∧ (Lit.int .i64 z0).wf = true ∧ (Lit.int .i64 z1).wf = true ∧ (Lit.int .i64 z4).wf = true ∧ (Lit.int .i64 z5).wf = true) (w1 : (a1 = none ∧ len1 = 0 ∧ cap1 = 0 ∧ z1 = []) ∨ ∃ x, a1 = some x ∧ len1 ≤ cap1 ∧ cap1 ≤ maxLen ∧ z1.length = cap1 ∧ (∀ i, i < z1.length → w.cell? (x.add i) = some (.int .i64 (z1.getD i 0))) ∧ ∀ n ∈ z1, (Lit.int .i64 n).wf = true) (y1 : len1 * 8 ≤ 140737488351232) (w2_0 : (Lit.int .u8 a2_0).wf = true) (w2_1 : (Lit.int .u8 a2_1).wf = true) (w2_2 : (Lit.int .u8 a2_2).wf = true) (w2_3 : (Lit.int .u8 a2_3).wf = true) (w2_4 : (Lit.int .u8 a2_4).wf = true) (w2_5 : (Lit.int .u8 a2_5).wf = true) (w2_6 : (Lit.int .u8 a2_6).wf = true) (w2_7 : (Lit.int .u8 a2_7).wf = true) :
    Calls Try.prog 4 #[.slice a0 len0 cap0, .slice a1 len1 cap1, .agg #[.int .u8 a2_0, .int .u8 a2_1, .int .u8 a2_2, .int .u8 a2_3, .int .u8 a2_4, .int .u8 a2_5, .int .u8 a2_6, .int .u8 a2_7]] w fun e w' => e = .returned (.bool true) ∧ Below w.heap.size w w' := by
  obtain ⟨l, hl, hC, hS, hcp⟩ := sigs_of w0
  obtain ⟨wl, rfl, hr1, hm1, hw1, hc1⟩ := ReadsInt.ofRowC w1
  have hW : (Kd.int .i64).C w a1 wl.length wl := Kd.C_of_reads (d := (0 : Int)) (h1 := fun _ => rfl) hr1
  have hI : ∀ x ∈ wl, In64 x := fun x hx => by
    have := hw1 x hx
    simp only [Lit.wf, Bool.and_eq_true, decide_eq_true_eq] at this
    exact this
  subst hl
  exact Checks_core l a0 cap0 wl a1 cap1 a2_0 a2_1 a2_2 a2_3 a2_4 a2_5 a2_6 a2_7 w hcp hC hW hc1 hS hI (byts_of2 w2_0 w2_1 w2_2 w2_3 w2_4 w2_5 w2_6 w2_7)
end Go.Proofs.Ytepeihlhokpjjaa.P
