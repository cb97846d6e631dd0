/- Of two frames the one that wins has the dominant bit where their bodies are unlike first: the walk. Conditions: those that each lemma names; the variable crc.divisor holds bytes. -/
import Derived.Test.YtjhnkncmdeineaaDoorBodBodyF
namespace Go.Proofs.YtjhnkncmdeineaaDoor.P
open Go.RowKit Go.Proofs.YtjhnkncmdeineaaDoorW.PrintWords Go.Proofs.YtjhnkncmdeineaaDoorW.PrintLast Go.Proofs.YtjhnkncmdeineaaDoorW.PrintMore Go.Shelf
set_option linter.unusedVariables false
set_option linter.unusedSimpArgs false
theorem set12_far {w : World} {g k t : Nat} {cs : Array Value} (v0 v1 v2 v3 v4 v5 v6 v7 v8 v9 v10 v11 : Value) (h : w.heap[k]? = some (.cells cs t (0, 0))) (hne : k ≠ g) : (set12 w g v0 v1 v2 v3 v4 v5 v6 v7 v8 v9 v10 v11).heap[k]? = some (.cells cs t (0, 0)) :=
  blk_far (blk_far (blk_far (blk_far (blk_far (blk_far (blk_far (blk_far (blk_far (blk_far (blk_far (blk_far h hne _) hne _) hne _) hne _) hne _) hne _) hne _) hne _) hne _) hne _) hne _) hne _
theorem unlike {l1 l2 : List Int} {a b : Bool} {n m : Int} {r s : Bool} (n0 : 0 ≤ n) (m0 : 0 ≤ m) (h1 : rightV a n = true) (h2 : rightV b m = true) (f1 : ∃ t, l1 = 0 :: (bitsV a n r ++ t)) (f2 : ∃ t, l2 = 0 :: (bitsV b m s ++ t)) (hne : keyV a n r ≠ keyV b m s) :
    ∃ (p : Nat) (u v : Int), l1[p]? = some u ∧ l2[p]? = some v ∧ u ≠ v ∧ (keyV a n r < keyV b m s ↔ u = 0) ∧ ∀ j, j < p → l1[j]? = l2[j]? := by
  obtain ⟨t1, rfl⟩ := f1
  obtain ⟨t2, rfl⟩ := f2
  obtain ⟨p, p1, p2, he, u, v, hu, hv, hn, hk⟩ := first_diff (r := r) (s := s) n0 m0 h1 h2 hne
  refine ⟨p + 1, u, v, ?_, ?_, hn, hk, fun j hj => ?_⟩
  · rw [List.getElem?_cons_succ, List.getElem?_append_left p1]; exact hu
  · rw [List.getElem?_cons_succ, List.getElem?_append_left p2]; exact hv
  · match j, hj with
    | 0, _ => rfl
    | j + 1, hj => rw [List.getElem?_cons_succ, List.getElem?_cons_succ, List.getElem?_append_left (by omega), List.getElem?_append_left (by omega)]; exact he j (by omega)
/-- What the first place where both are unlike tells, behind so many alike ones. -/
theorem at_unlike {l1 l2 : List Int} {a b : Bool} {n m : Int} {r s : Bool} (n0 : 0 ≤ n) (m0 : 0 ≤ m) (h1 : rightV a n = true) (h2 : rightV b m = true) (f1 : ∃ t, l1 = 0 :: (bitsV a n r ++ t)) (f2 : ∃ t, l2 = 0 :: (bitsV b m s ++ t)) (hne : keyV a n r ≠ keyV b m s)
    (i : Nat) (hall : ∀ j, j < i → l1[j]? = l2[j]?) :
    (i < l1.length ∧ i < l2.length) ∧ (∀ u v : Int, l1[i]? = some u → l2[i]? = some v → u ≠ v → (keyV a n r < keyV b m s ↔ u = 0)) := by
  obtain ⟨p, u, v, hu, hv, hn, hk, he⟩ := unlike n0 m0 h1 h2 f1 f2 hne
  have hp : i ≤ p := Nat.le_of_not_lt fun h => by
    have := hall p h
    rw [hu, hv] at this
    exact hn (Option.some.inj this)
  have p1 := (List.getElem?_eq_some_iff.1 hu).1
  have p2 := (List.getElem?_eq_some_iff.1 hv).1
  refine ⟨⟨by omega, by omega⟩, fun u' v' hu' hv' hne' => ?_⟩
  have hip : i = p := by
    apply Classical.byContradiction
    intro hc
    have := he i (by omega)
    rw [hu', hv'] at this
    exact hne' (Option.some.inj this)
  subst hip
  rw [hu] at hu'
  cases hu'
  exact hk
theorem rd_get (l : List Int) (i : Nat) (h : i < l.length) : l[i]? = some (rd l (i : Int)) := by
  have e : rd l (i : Int) = l[i] := by simp [rd, h]
  rw [e, List.getElem?_eq_getElem h]
set_option maxRecDepth 100000 in
set_option maxHeartbeats 16000000 in
theorem Bodies_core (e : Bool) (n : Int) (r : Bool) (L : Int) (y : Nat → Int) (a : Bool) (m : Int) (s : Bool) (M : Int) (z : Nat → Int) (w : World) (hd : Div w) (n0 : 0 ≤ n) (n1 : n < 4294967296) (yb : ∀ j, j < 8 → 0 ≤ y j ∧ y j < 256) (m0 : 0 ≤ m) (m1 : m < 4294967296) (zb : ∀ j, j < 8 → 0 ≤ z j ∧ z j < 256) :
    Calls Tryd.prog 3 #[.agg (frc e n r L y), .agg (frc a m s M z)] w fun e' w' => e' = .returned (.bool true) ∧ Below w.heap.size w w' := by
  have hu24 := Tryd.underlying24
  have hu25 := Tryd.underlying25
  have hu27 := Tryd.underlying27
  have F1 := Aside0.mk (fun w => Frame_calls e n r L y n0 n1 yb w)
  have F2 := Aside0.mk (fun w => Frame_calls a m s M z m0 m1 zb w)
  have HD := Aside0.mk hd
  have KF0 := Aside0.mk (blk_alloc (blk_new w (.cells (frc e n r L y) 27)) (.cells (frc a m s M z) 27))
  have KG0 := Aside0.mk (blk_new1 (w := w) (t := 27) (u := 27) (frc e n r L y) (frc a m s M z))
  have B0 := Aside0.mk (below_alloc (below_alloc (Below.refl w.heap.size w) (.cells (frc e n r L y) 27)) (.cells (frc a m s M z) 27))
  clear hd n0 n1 yb m0 m1 zb
  simp only [frc] at KF0 KG0 B0 F1 F2 ⊢
  obtain ⟨c0, c1, c2, c3, c4, c5, c6, c7, c8, c9, c10, c11⟩ := cells12 KF0.out
  obtain ⟨d0, d1, d2, d3, d4, d5, d6, d7, d8, d9, d10, d11⟩ := cells12 KG0.out
  go_enter Tryd.func3, Tryd.ntmps3
  go_wp2_with fail
  clear c0 c1 c2 c3 c4 c5 c6 c7 c8 c9 c10 c11 d0 d1 d2 d3 d4 d5 d6 d7 d8 d9 d10 d11
  generalize (w.alloc (.cells #[.bool e, .int .u32 n, .bool r, .int .i64 L, .int .u8 (y 0), .int .u8 (y 1), .int .u8 (y 2), .int .u8 (y 3), .int .u8 (y 4), .int .u8 (y 5), .int .u8 (y 6), .int .u8 (y 7)] 27)).alloc (.cells #[.bool a, .int .u32 m, .bool s, .int .i64 M, .int .u8 (z 0), .int .u8 (z 1), .int .u8 (z 2), .int .u8 (z 3), .int .u8 (z 4), .int .u8 (z 5), .int .u8 (z 6), .int .u8 (z 7)] 27) = W0 at KF0 KG0 B0 ⊢
  have HBW := Aside0.mk (Below.refl W0.heap.size W0)
  have KF := KF0
  have KG := KG0
  obtain ⟨c0, c1, c2, c3, c4, c5, c6, c7, c8, c9, c10, c11⟩ := cells12 KF.out
  obtain ⟨d0, d1, d2, d3, d4, d5, d6, d7, d8, d9, d10, d11⟩ := cells12 KG.out
  obtain ⟨f0, f1, f2, f3, f4, f5, f6, f7, f8, f9, f10, f11⟩ := frozen12 KF.out
  obtain ⟨g0, g1, g2, g3, g4, g5, g6, g7, g8, g9, g10, g11⟩ := frozen12 KG.out
  go_region_with (first
    | (go_at_call 4; (with_reducible refine (F1.out _).mono ?_); rintro e' w5 ⟨⟨nf, Lf, xf, rfl, hg⟩, hb⟩; have GF1 := Aside0.mk hg; have mB : Aside0 (Below W0.heap.size W0 w5) := ⟨below_step (by (repeat (first | with_reducible exact HBW.out | with_reducible refine below_drew1 ?_ | with_reducible refine below_alloc ?_ _))) hb⟩; clear hg hb HBW F1 KF KG; clear c0 c1 c2 c3 c4 c5 c6 c7 c8 c9 c10 c11 d0 d1 d2 d3 d4 d5 d6 d7 d8 d9 d10 d11 f0 f1 f2 f3 f4 f5 f6 f7 f8 f9 f10 f11 g0 g1 g2 g3 g4 g5 g6 g7 g8 g9 g10 g11; have HBW := mB; clear mB; have KF := Aside0.mk (blk_below KF0.out HBW.out); have KG := Aside0.mk (blk_below KG0.out HBW.out); obtain ⟨c0, c1, c2, c3, c4, c5, c6, c7, c8, c9, c10, c11⟩ := cells12 KF.out; obtain ⟨d0, d1, d2, d3, d4, d5, d6, d7, d8, d9, d10, d11⟩ := cells12 KG.out; obtain ⟨f0, f1, f2, f3, f4, f5, f6, f7, f8, f9, f10, f11⟩ := frozen12 KF.out; obtain ⟨g0, g1, g2, g3, g4, g5, g6, g7, g8, g9, g10, g11⟩ := frozen12 KG.out)
    | (go_at_call 4; (with_reducible refine (F2.out _).mono ?_); rintro e' w6 ⟨⟨ng, Lg, xg, rfl, hg⟩, hb⟩; have GF2 := Aside0.mk hg; have mB : Aside0 (Below W0.heap.size W0 w6) := ⟨below_step (by (repeat (first | with_reducible exact HBW.out | with_reducible refine below_drew1 ?_ | with_reducible refine below_alloc ?_ _))) hb⟩; clear hg hb HBW F2 KF KG; clear c0 c1 c2 c3 c4 c5 c6 c7 c8 c9 c10 c11 d0 d1 d2 d3 d4 d5 d6 d7 d8 d9 d10 d11 f0 f1 f2 f3 f4 f5 f6 f7 f8 f9 f10 f11 g0 g1 g2 g3 g4 g5 g6 g7 g8 g9 g10 g11; have HBW := mB; clear mB; have KF := Aside0.mk (blk_below KF0.out HBW.out); have KG := Aside0.mk (blk_below KG0.out HBW.out); obtain ⟨c0, c1, c2, c3, c4, c5, c6, c7, c8, c9, c10, c11⟩ := cells12 KF.out; obtain ⟨d0, d1, d2, d3, d4, d5, d6, d7, d8, d9, d10, d11⟩ := cells12 KG.out; obtain ⟨f0, f1, f2, f3, f4, f5, f6, f7, f8, f9, f10, f11⟩ := frozen12 KF.out; obtain ⟨g0, g1, g2, g3, g4, g5, g6, g7, g8, g9, g10, g11⟩ := frozen12 KG.out))
  all_goals (
    have KF2 := Aside0.mk (set12_far (.bool a) (.int .u32 ng) (.bool s) (.int .i64 Lg) (.int .u8 (xg 0)) (.int .u8 (xg 1)) (.int .u8 (xg 2)) (.int .u8 (xg 3)) (.int .u8 (xg 4)) (.int .u8 (xg 5)) (.int .u8 (xg 6)) (.int .u8 (xg 7)) (set12_blk (.bool e) (.int .u32 nf) (.bool r) (.int .i64 Lf) (.int .u8 (xf 0)) (.int .u8 (xf 1)) (.int .u8 (xf 2)) (.int .u8 (xf 3)) (.int .u8 (xf 4)) (.int .u8 (xf 5)) (.int .u8 (xf 6)) (.int .u8 (xf 7)) KF.out) (show w.heap.size ≠ w.heap.size + 1 by omega))
    have KG2 := Aside0.mk (set12_blk (.bool a) (.int .u32 ng) (.bool s) (.int .i64 Lg) (.int .u8 (xg 0)) (.int .u8 (xg 1)) (.int .u8 (xg 2)) (.int .u8 (xg 3)) (.int .u8 (xg 4)) (.int .u8 (xg 5)) (.int .u8 (xg 6)) (.int .u8 (xg 7)) (set12_far (.bool e) (.int .u32 nf) (.bool r) (.int .i64 Lf) (.int .u8 (xf 0)) (.int .u8 (xf 1)) (.int .u8 (xf 2)) (.int .u8 (xf 3)) (.int .u8 (xf 4)) (.int .u8 (xf 5)) (.int .u8 (xf 6)) (.int .u8 (xf 7)) KG.out (show w.heap.size + 1 ≠ w.heap.size by omega)))
    have B2 := Aside0.mk (set12_below (.bool a) (.int .u32 ng) (.bool s) (.int .i64 Lg) (.int .u8 (xg 0)) (.int .u8 (xg 1)) (.int .u8 (xg 2)) (.int .u8 (xg 3)) (.int .u8 (xg 4)) (.int .u8 (xg 5)) (.int .u8 (xg 6)) (.int .u8 (xg 7)) (set12_below (.bool e) (.int .u32 nf) (.bool r) (.int .i64 Lf) (.int .u8 (xf 0)) (.int .u8 (xf 1)) (.int .u8 (xf 2)) (.int .u8 (xf 3)) (.int .u8 (xf 4)) (.int .u8 (xf 5)) (.int .u8 (xf 6)) (.int .u8 (xf 7)) (below_step B0.out HBW.out) (Nat.le_refl w.heap.size)) (show w.heap.size ≤ w.heap.size + 1 by omega))
    simp only [set12] at KF2 KG2 B2
    clear c0 c1 c2 c3 c4 c5 c6 c7 c8 c9 c10 c11 d0 d1 d2 d3 d4 d5 d6 d7 d8 d9 d10 d11 f0 f1 f2 f3 f4 f5 f6 f7 f8 f9 f10 f11 g0 g1 g2 g3 g4 g5 g6 g7 g8 g9 g10 g11
    clear KF KG KF0 KG0 HBW
    obtain ⟨W2, hW2⟩ : ∃ W2, W2 = set12 (set12 w6 w.heap.size (.bool e) (.int .u32 nf) (.bool r) (.int .i64 Lf) (.int .u8 (xf 0)) (.int .u8 (xf 1)) (.int .u8 (xf 2)) (.int .u8 (xf 3)) (.int .u8 (xf 4)) (.int .u8 (xf 5)) (.int .u8 (xf 6)) (.int .u8 (xf 7))) (w.heap.size + 1) (.bool a) (.int .u32 ng) (.bool s) (.int .i64 Lg) (.int .u8 (xg 0)) (.int .u8 (xg 1)) (.int .u8 (xg 2)) (.int .u8 (xg 3)) (.int .u8 (xg 4)) (.int .u8 (xg 5)) (.int .u8 (xg 6)) (.int .u8 (xg 7)) := ⟨_, rfl⟩
    simp only [set12] at hW2
    rw [← hW2] at KF2 KG2 B2 ⊢
    clear hW2
    have D2 := Aside0.mk (Div.below HD.out B2.out)
    have HBX := Aside0.mk (Below.refl W2.heap.size W2)
    have BF := Aside0.mk (fun w hd => Body_calls e nf r Lf xf GF1.out w hd)
    have BG := Aside0.mk (fun w hd => Body_calls a ng s Lg xg GF2.out w hd)
    simp only [frc] at BF BG
    obtain ⟨c0, c1, c2, c3, c4, c5, c6, c7, c8, c9, c10, c11⟩ := cells12 KF2.out
    obtain ⟨d0, d1, d2, d3, d4, d5, d6, d7, d8, d9, d10, d11⟩ := cells12 KG2.out
    go_wp2_with fail
    go_region_held3 (fun w' => w'.cell? ⟨w.heap.size, 0, none⟩ = some (.bool e) ∧ w'.cell? ⟨w.heap.size, 1, none⟩ = some (.int .u32 nf) ∧ w'.cell? ⟨w.heap.size, 2, none⟩ = some (.bool r) ∧ w'.cell? ⟨w.heap.size, 3, none⟩ = some (.int .i64 Lf) ∧ w'.cell? ⟨w.heap.size, 4, none⟩ = some (.int .u8 (xf 0)) ∧ w'.cell? ⟨w.heap.size, 5, none⟩ = some (.int .u8 (xf 1)) ∧ w'.cell? ⟨w.heap.size, 6, none⟩ = some (.int .u8 (xf 2)) ∧ w'.cell? ⟨w.heap.size, 7, none⟩ = some (.int .u8 (xf 3)) ∧ w'.cell? ⟨w.heap.size, 8, none⟩ = some (.int .u8 (xf 4)) ∧ w'.cell? ⟨w.heap.size, 9, none⟩ = some (.int .u8 (xf 5)) ∧ w'.cell? ⟨w.heap.size, 10, none⟩ = some (.int .u8 (xf 6)) ∧ w'.cell? ⟨w.heap.size, 11, none⟩ = some (.int .u8 (xf 7)) ∧ w'.cell? ⟨w.heap.size + 1, 0, none⟩ = some (.bool a) ∧ w'.cell? ⟨w.heap.size + 1, 1, none⟩ = some (.int .u32 ng) ∧ w'.cell? ⟨w.heap.size + 1, 2, none⟩ = some (.bool s) ∧ w'.cell? ⟨w.heap.size + 1, 3, none⟩ = some (.int .i64 Lg) ∧ w'.cell? ⟨w.heap.size + 1, 4, none⟩ = some (.int .u8 (xg 0)) ∧ w'.cell? ⟨w.heap.size + 1, 5, none⟩ = some (.int .u8 (xg 1)) ∧ w'.cell? ⟨w.heap.size + 1, 6, none⟩ = some (.int .u8 (xg 2)) ∧ w'.cell? ⟨w.heap.size + 1, 7, none⟩ = some (.int .u8 (xg 3)) ∧ w'.cell? ⟨w.heap.size + 1, 8, none⟩ = some (.int .u8 (xg 4)) ∧ w'.cell? ⟨w.heap.size + 1, 9, none⟩ = some (.int .u8 (xg 5)) ∧ w'.cell? ⟨w.heap.size + 1, 10, none⟩ = some (.int .u8 (xg 6)) ∧ w'.cell? ⟨w.heap.size + 1, 11, none⟩ = some (.int .u8 (xg 7))) (go_keep)
      (first
        | (go_at_call 5; (with_reducible refine (BF.out _ (by first | exact D2.out | exact Div.below D2.out (by (repeat (first | with_reducible exact HBX.out | with_reducible refine below_drew1 ?_))))).mono ?_); rintro e' w7 ⟨⟨v, l7, rfl, hR, hl, h34, h200⟩, hb⟩; obtain ⟨A7, q7, ev, hc, hC⟩ := Kd.R_reads hR; subst ev; have RY7 := Aside0.mk hC; have HB7 := Aside0.mk hb; have FO7 := Aside0.mk hl; have LN7 := Aside0.mk (And.intro h34 h200); have mB : Aside0 (Below W2.heap.size W2 w7) := ⟨below_step (by (repeat (first | with_reducible exact HBX.out | with_reducible refine below_drew1 ?_))) hb⟩; clear hR hb hc hC hl h34 h200 HBX BF c0 c1 c2 c3 c4 c5 c6 c7 c8 c9 c10 c11 d0 d1 d2 d3 d4 d5 d6 d7 d8 d9 d10 d11; have HBX := mB; clear mB; have KF3 := blk_below KF2.out HBX.out; have KG3 := blk_below KG2.out HBX.out; obtain ⟨c0, c1, c2, c3, c4, c5, c6, c7, c8, c9, c10, c11⟩ := cells12 KF3; obtain ⟨d0, d1, d2, d3, d4, d5, d6, d7, d8, d9, d10, d11⟩ := cells12 KG3; clear KF3 KG3)
        | (go_at_call 5; (with_reducible refine (BG.out _ (by first | exact D2.out | exact Div.below D2.out (by (repeat (first | with_reducible exact HBX.out | with_reducible refine below_drew1 ?_))))).mono ?_); rintro e' w8 ⟨⟨v, l8, rfl, hR, hl, h34, h200⟩, hb⟩; obtain ⟨A8, q8, ev, hc, hC⟩ := Kd.R_reads hR; subst ev; have RY8 := Aside0.mk hC; have HB8 := Aside0.mk hb; have FO8 := Aside0.mk hl; have LN8 := Aside0.mk (And.intro h34 h200); have mB : Aside0 (Below W2.heap.size W2 w8) := ⟨below_step (by (repeat (first | with_reducible exact HBX.out | with_reducible refine below_drew1 ?_))) hb⟩; clear hR hb hc hC hl h34 h200 HBX BG c0 c1 c2 c3 c4 c5 c6 c7 c8 c9 c10 c11 d0 d1 d2 d3 d4 d5 d6 d7 d8 d9 d10 d11; have HBX := mB; clear mB; have KF3 := blk_below KF2.out HBX.out; have KG3 := blk_below KG2.out HBX.out; obtain ⟨c0, c1, c2, c3, c4, c5, c6, c7, c8, c9, c10, c11⟩ := cells12 KF3; obtain ⟨d0, d1, d2, d3, d4, d5, d6, d7, d8, d9, d10, d11⟩ := cells12 KG3; clear KF3 KG3))
    have RA := Aside0.mk (Kd.C_below RY7.out HB8.out)
    have R1 := Aside0.mk (And.intro (good_right GF1.out) (good_right GF2.out))
    have AU := Aside0.mk (fun hne => at_unlike (l1 := l7) (l2 := l8) (r := r) (s := s) GF1.out.n0 GF2.out.n0 R1.out.1 R1.out.2 FO7.out FO8.out hne)
    have KF4 := Aside0.mk (blk_below KF2.out HBX.out)
    have KG4 := Aside0.mk (blk_below KG2.out HBX.out)
    have B8 := Aside0.mk (below_step B2.out HBX.out)
    have HBY := Aside0.mk (Below.refl w8.heap.size w8)
    have n1 : decide ((l7.length : Int) < 34) = false := decide_eq_false (by have := LN7.out; omega)
    have n2 : decide ((l8.length : Int) < 34) = false := decide_eq_false (by have := LN8.out; omega)
    have n1b : decide (l7.length < 34) = false := decide_eq_false (by have := LN7.out; omega)
    have n2b : decide (l8.length < 34) = false := decide_eq_false (by have := LN8.out; omega)
    clear HB7 HB8 RY7 HBX KF2 KG2 B2 D2 HD B0 c3 c4 c5 c6 c7 c8 c9 c10 c11 d3 d4 d5 d6 d7 d8 d9 d10 d11
    rcases Int.lt_trichotomy (keyV e nf r) (keyV a ng s) with hk | hk | hk
    · have WF : Aside0 (∀ w, Calls Tryd.prog 6 #[.agg #[.bool e, .int .u32 nf], .bool r, .agg #[.bool a, .int .u32 ng], .bool s] w fun e w' => e = .returned (.bool true) ∧ Below w.heap.size w w') := ⟨fun w => ident_Wins.calls e nf r a ng s true w (by rw [Wins_eq e nf r a ng s GF1.out.n0 GF2.out.n0, R1.out.1, R1.out.2]; simp only [Bool.true_and]; congr 1; first | exact decide_eq_true (by omega) | exact decide_eq_false (by omega))⟩
      have WG : Aside0 (∀ w, Calls Tryd.prog 6 #[.agg #[.bool a, .int .u32 ng], .bool s, .agg #[.bool e, .int .u32 nf], .bool r] w fun e w' => e = .returned (.bool false) ∧ Below w.heap.size w w') := ⟨fun w => ident_Wins.calls a ng s e nf r false w (by rw [Wins_eq a ng s e nf r GF2.out.n0 GF1.out.n0, R1.out.1, R1.out.2]; simp only [Bool.true_and]; congr 1; first | exact decide_eq_true (by omega) | exact decide_eq_false (by omega))⟩
      have HK := Aside0.mk hk
      clear hk
      go_wp2_with fail
      go_region_held3 (fun w' => w'.cell? ⟨w.heap.size, 0, none⟩ = some (.bool e) ∧ w'.cell? ⟨w.heap.size, 1, none⟩ = some (.int .u32 nf) ∧ w'.cell? ⟨w.heap.size, 2, none⟩ = some (.bool r) ∧ w'.cell? ⟨w.heap.size + 1, 0, none⟩ = some (.bool a) ∧ w'.cell? ⟨w.heap.size + 1, 1, none⟩ = some (.int .u32 ng) ∧ w'.cell? ⟨w.heap.size + 1, 2, none⟩ = some (.bool s)) (go_keep)
        (first
          | (go_at_call 6; (with_reducible refine (WF.out _).mono ?_); rintro e' w9 ⟨rfl, hb⟩; have mB : Aside0 (Below w8.heap.size w8 w9) := ⟨below_step (by (repeat (first | with_reducible exact HBY.out | with_reducible refine below_drew1 ?_))) hb⟩; clear hb HBY WF c0 c1 c2 d0 d1 d2; have HBY := mB; clear mB; have KF5 := blk_below KF4.out HBY.out; have KG5 := blk_below KG4.out HBY.out; obtain ⟨c0, c1, c2, c3, c4, c5, c6, c7, c8, c9, c10, c11⟩ := cells12 KF5; obtain ⟨d0, d1, d2, d3, d4, d5, d6, d7, d8, d9, d10, d11⟩ := cells12 KG5; clear KF5 KG5 c3 c4 c5 c6 c7 c8 c9 c10 c11 d3 d4 d5 d6 d7 d8 d9 d10 d11)
          | (go_at_call 6; (with_reducible refine (WG.out _).mono ?_); rintro e' w10 ⟨rfl, hb⟩; have mB : Aside0 (Below w8.heap.size w8 w10) := ⟨below_step (by (repeat (first | with_reducible exact HBY.out | with_reducible refine below_drew1 ?_))) hb⟩; clear hb HBY WG c0 c1 c2 d0 d1 d2; have HBY := mB; clear mB; have KF5 := blk_below KF4.out HBY.out; have KG5 := blk_below KG4.out HBY.out; obtain ⟨c0, c1, c2, c3, c4, c5, c6, c7, c8, c9, c10, c11⟩ := cells12 KF5; obtain ⟨d0, d1, d2, d3, d4, d5, d6, d7, d8, d9, d10, d11⟩ := cells12 KG5; clear KF5 KG5 c3 c4 c5 c6 c7 c8 c9 c10 c11 d3 d4 d5 d6 d7 d8 d9 d10 d11))
      clear c0 c1 c2 d0 d1 d2 KF4 KG4 n1 n1b n2 n2b
      obtain ⟨ad7, ea7, _⟩ := RA.out.2.2 (by have := LN7.out; omega)
      obtain ⟨ad8, ea8, _⟩ := RY8.out.2.2 (by have := LN8.out; omega)
      subst ea7
      subst ea8
      go_wp2_with fail
      go_loopg [9] (l7.length + 1) (fun kq v9 w' => ∃ i : Nat, v9 = .int .i64 (i : Int) ∧ Aside0 (i ≤ l7.length ∧ i + kq = l7.length + 1) ∧ Aside0 (keyV e nf r ≠ keyV a ng s → ∀ j, j < i → l7[j]? = l8[j]?) ∧ Aside0 (Below w8.heap.size w8 w'))
      case atStart => exact ⟨0, rfl, ⟨by omega⟩, ⟨fun _ j hj => absurd hj (by omega)⟩, HBY⟩
      case round =>
        clear HBY
        obtain ⟨i, rfl, HI, HE, HB⟩ := hrel
        by_cases h1 : i < l7.length
        · have u1 : decide ((i : Int) < (l7.length : Int)) = true := decide_eq_true (by omega)
          have u1b : decide (i < l7.length) = true := decide_eq_true h1
          obtain ⟨k1, rfl⟩ : ∃ k1, gk = k1 + 1 := ⟨gk - 1, by have := HI.out; omega⟩
          have ki : wrap64 ((i : Int) + 1) = ((i + 1 : Nat) : Int) := by rw [i64w _ (by omega) (by have := LN7.out; omega)]; rfl
          by_cases h2 : i < l8.length
          · have u2 : decide ((i : Int) < (l8.length : Int)) = true := decide_eq_true (by omega)
            have u2b : decide (i < l8.length) = true := decide_eq_true h2
            have q0 : (0 : Int) ≤ (i : Int) := by omega
            have q1 : (i : Int) < (l7.length : Int) := by omega
            have q2 : (i : Int) < (l8.length : Int) := by omega
            obtain ⟨x1, e1, y1⟩ := Kd.at_int (Kd.C_below RA.out HB.out) (i : Int) q0 q1
            obtain ⟨x2, e2, y2⟩ := Kd.at_int (Kd.C_below RY8.out HB.out) (i : Int) q0 q2
            cases e1
            cases e2
            have g7 := rd_get l7 i h1
            have g8 := rd_get l8 i h2
            simp only [Int.toNat_natCast] at y1 y2
            generalize rd l7 (i : Int) = u at y1 g7
            generalize rd l8 (i : Int) = v at y2 g8
            by_cases huv : u = v
            · subst huv
              have v1 : (u != u) = false := by simp
              have nE : Aside0 (keyV e nf r ≠ keyV a ng s → ∀ j, j < i + 1 → l7[j]? = l8[j]?) := ⟨fun h j hj => by
                by_cases e1 : j = i
                · rw [e1, g7, g8]
                · exact HE.out h j (by omega)⟩
              have nI : Aside0 (i + 1 ≤ l7.length ∧ i + 1 + k1 = l7.length + 1) := ⟨by have := HI.out; omega⟩
              clear HE HI g7 g8
              go_wp2
              go_quiet (fail)
              go_wp2
              go_roundg k1
              case rel => exact ⟨i + 1, by first | rfl | rw [ki], nI, nE, ⟨pw_below_drewN HB.out nq⟩⟩
              case measure => omega
            · have v1 : (u != v) = true := by simp [huv]
              have hz : u = 0 := ((AU.out (by have := HK.out; omega) i (HE.out (by have := HK.out; omega))).2 u v g7 g8 huv).1 HK.out
              have v2 : (u == 0) = true := by simp [hz]
              clear HE HI hz g7 g8 huv
              go_wp2
              go_quiet (fail)
              go_wp2
              go_ret
              exact ⟨rfl, below_step B8.out (pw_below_drewN HB.out nq)⟩
          · have u2 : decide ((i : Int) < (l8.length : Int)) = false := decide_eq_false (by omega)
            have u2b : decide (i < l8.length) = false := decide_eq_false h2
            exact absurd (AU.out (by have := HK.out; omega) i (HE.out (by have := HK.out; omega))).1 (by omega)
        · have u1 : decide ((i : Int) < (l7.length : Int)) = false := decide_eq_false (by omega)
          have u1b : decide (i < l7.length) = false := decide_eq_false h1
          exact absurd (AU.out (by have := HK.out; omega) i (HE.out (by have := HK.out; omega))).1 (by omega)
    · have WF : Aside0 (∀ w, Calls Tryd.prog 6 #[.agg #[.bool e, .int .u32 nf], .bool r, .agg #[.bool a, .int .u32 ng], .bool s] w fun e w' => e = .returned (.bool false) ∧ Below w.heap.size w w') := ⟨fun w => ident_Wins.calls e nf r a ng s false w (by rw [Wins_eq e nf r a ng s GF1.out.n0 GF2.out.n0, R1.out.1, R1.out.2]; simp only [Bool.true_and]; congr 1; first | exact decide_eq_true (by omega) | exact decide_eq_false (by omega))⟩
      have WG : Aside0 (∀ w, Calls Tryd.prog 6 #[.agg #[.bool a, .int .u32 ng], .bool s, .agg #[.bool e, .int .u32 nf], .bool r] w fun e w' => e = .returned (.bool false) ∧ Below w.heap.size w w') := ⟨fun w => ident_Wins.calls a ng s e nf r false w (by rw [Wins_eq a ng s e nf r GF2.out.n0 GF1.out.n0, R1.out.1, R1.out.2]; simp only [Bool.true_and]; congr 1; first | exact decide_eq_true (by omega) | exact decide_eq_false (by omega))⟩
      have HK := Aside0.mk hk
      clear hk
      go_wp2_with fail
      go_region_held3 (fun w' => w'.cell? ⟨w.heap.size, 0, none⟩ = some (.bool e) ∧ w'.cell? ⟨w.heap.size, 1, none⟩ = some (.int .u32 nf) ∧ w'.cell? ⟨w.heap.size, 2, none⟩ = some (.bool r) ∧ w'.cell? ⟨w.heap.size + 1, 0, none⟩ = some (.bool a) ∧ w'.cell? ⟨w.heap.size + 1, 1, none⟩ = some (.int .u32 ng) ∧ w'.cell? ⟨w.heap.size + 1, 2, none⟩ = some (.bool s)) (go_keep)
        (first
          | (go_at_call 6; (with_reducible refine (WF.out _).mono ?_); rintro e' w9 ⟨rfl, hb⟩; have mB : Aside0 (Below w8.heap.size w8 w9) := ⟨below_step (by (repeat (first | with_reducible exact HBY.out | with_reducible refine below_drew1 ?_))) hb⟩; clear hb HBY WF c0 c1 c2 d0 d1 d2; have HBY := mB; clear mB; have KF5 := blk_below KF4.out HBY.out; have KG5 := blk_below KG4.out HBY.out; obtain ⟨c0, c1, c2, c3, c4, c5, c6, c7, c8, c9, c10, c11⟩ := cells12 KF5; obtain ⟨d0, d1, d2, d3, d4, d5, d6, d7, d8, d9, d10, d11⟩ := cells12 KG5; clear KF5 KG5 c3 c4 c5 c6 c7 c8 c9 c10 c11 d3 d4 d5 d6 d7 d8 d9 d10 d11)
          | (go_at_call 6; (with_reducible refine (WG.out _).mono ?_); rintro e' w10 ⟨rfl, hb⟩; have mB : Aside0 (Below w8.heap.size w8 w10) := ⟨below_step (by (repeat (first | with_reducible exact HBY.out | with_reducible refine below_drew1 ?_))) hb⟩; clear hb HBY WG c0 c1 c2 d0 d1 d2; have HBY := mB; clear mB; have KF5 := blk_below KF4.out HBY.out; have KG5 := blk_below KG4.out HBY.out; obtain ⟨c0, c1, c2, c3, c4, c5, c6, c7, c8, c9, c10, c11⟩ := cells12 KF5; obtain ⟨d0, d1, d2, d3, d4, d5, d6, d7, d8, d9, d10, d11⟩ := cells12 KG5; clear KF5 KG5 c3 c4 c5 c6 c7 c8 c9 c10 c11 d3 d4 d5 d6 d7 d8 d9 d10 d11))
      clear c0 c1 c2 d0 d1 d2 KF4 KG4 n1 n1b n2 n2b
      obtain ⟨ad7, ea7, _⟩ := RA.out.2.2 (by have := LN7.out; omega)
      obtain ⟨ad8, ea8, _⟩ := RY8.out.2.2 (by have := LN8.out; omega)
      subst ea7
      subst ea8
      go_wp2_with fail
      go_loopg [9] (l7.length + 1) (fun kq v9 w' => ∃ i : Nat, v9 = .int .i64 (i : Int) ∧ Aside0 (i ≤ l7.length ∧ i + kq = l7.length + 1) ∧ Aside0 (keyV e nf r ≠ keyV a ng s → ∀ j, j < i → l7[j]? = l8[j]?) ∧ Aside0 (Below w8.heap.size w8 w'))
      case atStart => exact ⟨0, rfl, ⟨by omega⟩, ⟨fun _ j hj => absurd hj (by omega)⟩, HBY⟩
      case round =>
        clear HBY
        obtain ⟨i, rfl, HI, HE, HB⟩ := hrel
        by_cases h1 : i < l7.length
        · have u1 : decide ((i : Int) < (l7.length : Int)) = true := decide_eq_true (by omega)
          have u1b : decide (i < l7.length) = true := decide_eq_true h1
          obtain ⟨k1, rfl⟩ : ∃ k1, gk = k1 + 1 := ⟨gk - 1, by have := HI.out; omega⟩
          have ki : wrap64 ((i : Int) + 1) = ((i + 1 : Nat) : Int) := by rw [i64w _ (by omega) (by have := LN7.out; omega)]; rfl
          by_cases h2 : i < l8.length
          · have u2 : decide ((i : Int) < (l8.length : Int)) = true := decide_eq_true (by omega)
            have u2b : decide (i < l8.length) = true := decide_eq_true h2
            have q0 : (0 : Int) ≤ (i : Int) := by omega
            have q1 : (i : Int) < (l7.length : Int) := by omega
            have q2 : (i : Int) < (l8.length : Int) := by omega
            obtain ⟨x1, e1, y1⟩ := Kd.at_int (Kd.C_below RA.out HB.out) (i : Int) q0 q1
            obtain ⟨x2, e2, y2⟩ := Kd.at_int (Kd.C_below RY8.out HB.out) (i : Int) q0 q2
            cases e1
            cases e2
            have g7 := rd_get l7 i h1
            have g8 := rd_get l8 i h2
            simp only [Int.toNat_natCast] at y1 y2
            generalize rd l7 (i : Int) = u at y1 g7
            generalize rd l8 (i : Int) = v at y2 g8
            by_cases huv : u = v
            · subst huv
              have v1 : (u != u) = false := by simp
              have nE : Aside0 (keyV e nf r ≠ keyV a ng s → ∀ j, j < i + 1 → l7[j]? = l8[j]?) := ⟨fun h j hj => by
                by_cases e1 : j = i
                · rw [e1, g7, g8]
                · exact HE.out h j (by omega)⟩
              have nI : Aside0 (i + 1 ≤ l7.length ∧ i + 1 + k1 = l7.length + 1) := ⟨by have := HI.out; omega⟩
              clear HE HI g7 g8
              go_wp2
              go_quiet (fail)
              go_wp2
              go_roundg k1
              case rel => exact ⟨i + 1, by first | rfl | rw [ki], nI, nE, ⟨pw_below_drewN HB.out nq⟩⟩
              case measure => omega
            · have v1 : (u != v) = true := by simp [huv]
              have nE : Aside0 (keyV e nf r ≠ keyV a ng s → ∀ j, j < i + 1 → l7[j]? = l8[j]?) := ⟨fun h => absurd HK.out h⟩
              have nI : Aside0 (i + 1 ≤ l7.length ∧ i + 1 + k1 = l7.length + 1) := ⟨by have := HI.out; omega⟩
              clear HE HI g7 g8 huv
              go_wp2
              go_quiet (fail)
              go_wp2
              go_roundg k1
              case rel => exact ⟨i + 1, by first | rfl | rw [ki], nI, nE, ⟨pw_below_drewN HB.out nq⟩⟩
              case measure => omega
          · have u2 : decide ((i : Int) < (l8.length : Int)) = false := decide_eq_false (by omega)
            have u2b : decide (i < l8.length) = false := decide_eq_false h2
            clear HE HI
            go_wp2
            go_ret
            exact ⟨rfl, below_step B8.out HB.out⟩
        · have u1 : decide ((i : Int) < (l7.length : Int)) = false := decide_eq_false (by omega)
          have u1b : decide (i < l7.length) = false := decide_eq_false h1
          clear HE HI
          go_wp2
          go_ret
          exact ⟨rfl, below_step B8.out HB.out⟩
    · have WF : Aside0 (∀ w, Calls Tryd.prog 6 #[.agg #[.bool e, .int .u32 nf], .bool r, .agg #[.bool a, .int .u32 ng], .bool s] w fun e w' => e = .returned (.bool false) ∧ Below w.heap.size w w') := ⟨fun w => ident_Wins.calls e nf r a ng s false w (by rw [Wins_eq e nf r a ng s GF1.out.n0 GF2.out.n0, R1.out.1, R1.out.2]; simp only [Bool.true_and]; congr 1; first | exact decide_eq_true (by omega) | exact decide_eq_false (by omega))⟩
      have WG : Aside0 (∀ w, Calls Tryd.prog 6 #[.agg #[.bool a, .int .u32 ng], .bool s, .agg #[.bool e, .int .u32 nf], .bool r] w fun e w' => e = .returned (.bool true) ∧ Below w.heap.size w w') := ⟨fun w => ident_Wins.calls a ng s e nf r true w (by rw [Wins_eq a ng s e nf r GF2.out.n0 GF1.out.n0, R1.out.1, R1.out.2]; simp only [Bool.true_and]; congr 1; first | exact decide_eq_true (by omega) | exact decide_eq_false (by omega))⟩
      have HK := Aside0.mk hk
      clear hk
      go_wp2_with fail
      go_region_held3 (fun w' => w'.cell? ⟨w.heap.size, 0, none⟩ = some (.bool e) ∧ w'.cell? ⟨w.heap.size, 1, none⟩ = some (.int .u32 nf) ∧ w'.cell? ⟨w.heap.size, 2, none⟩ = some (.bool r) ∧ w'.cell? ⟨w.heap.size + 1, 0, none⟩ = some (.bool a) ∧ w'.cell? ⟨w.heap.size + 1, 1, none⟩ = some (.int .u32 ng) ∧ w'.cell? ⟨w.heap.size + 1, 2, none⟩ = some (.bool s)) (go_keep)
        (first
          | (go_at_call 6; (with_reducible refine (WF.out _).mono ?_); rintro e' w9 ⟨rfl, hb⟩; have mB : Aside0 (Below w8.heap.size w8 w9) := ⟨below_step (by (repeat (first | with_reducible exact HBY.out | with_reducible refine below_drew1 ?_))) hb⟩; clear hb HBY WF c0 c1 c2 d0 d1 d2; have HBY := mB; clear mB; have KF5 := blk_below KF4.out HBY.out; have KG5 := blk_below KG4.out HBY.out; obtain ⟨c0, c1, c2, c3, c4, c5, c6, c7, c8, c9, c10, c11⟩ := cells12 KF5; obtain ⟨d0, d1, d2, d3, d4, d5, d6, d7, d8, d9, d10, d11⟩ := cells12 KG5; clear KF5 KG5 c3 c4 c5 c6 c7 c8 c9 c10 c11 d3 d4 d5 d6 d7 d8 d9 d10 d11)
          | (go_at_call 6; (with_reducible refine (WG.out _).mono ?_); rintro e' w10 ⟨rfl, hb⟩; have mB : Aside0 (Below w8.heap.size w8 w10) := ⟨below_step (by (repeat (first | with_reducible exact HBY.out | with_reducible refine below_drew1 ?_))) hb⟩; clear hb HBY WG c0 c1 c2 d0 d1 d2; have HBY := mB; clear mB; have KF5 := blk_below KF4.out HBY.out; have KG5 := blk_below KG4.out HBY.out; obtain ⟨c0, c1, c2, c3, c4, c5, c6, c7, c8, c9, c10, c11⟩ := cells12 KF5; obtain ⟨d0, d1, d2, d3, d4, d5, d6, d7, d8, d9, d10, d11⟩ := cells12 KG5; clear KF5 KG5 c3 c4 c5 c6 c7 c8 c9 c10 c11 d3 d4 d5 d6 d7 d8 d9 d10 d11))
      clear c0 c1 c2 d0 d1 d2 KF4 KG4 n1 n1b n2 n2b
      obtain ⟨ad7, ea7, _⟩ := RA.out.2.2 (by have := LN7.out; omega)
      obtain ⟨ad8, ea8, _⟩ := RY8.out.2.2 (by have := LN8.out; omega)
      subst ea7
      subst ea8
      go_wp2_with fail
      go_loopg [9] (l7.length + 1) (fun kq v9 w' => ∃ i : Nat, v9 = .int .i64 (i : Int) ∧ Aside0 (i ≤ l7.length ∧ i + kq = l7.length + 1) ∧ Aside0 (keyV e nf r ≠ keyV a ng s → ∀ j, j < i → l7[j]? = l8[j]?) ∧ Aside0 (Below w8.heap.size w8 w'))
      case atStart => exact ⟨0, rfl, ⟨by omega⟩, ⟨fun _ j hj => absurd hj (by omega)⟩, HBY⟩
      case round =>
        clear HBY
        obtain ⟨i, rfl, HI, HE, HB⟩ := hrel
        by_cases h1 : i < l7.length
        · have u1 : decide ((i : Int) < (l7.length : Int)) = true := decide_eq_true (by omega)
          have u1b : decide (i < l7.length) = true := decide_eq_true h1
          obtain ⟨k1, rfl⟩ : ∃ k1, gk = k1 + 1 := ⟨gk - 1, by have := HI.out; omega⟩
          have ki : wrap64 ((i : Int) + 1) = ((i + 1 : Nat) : Int) := by rw [i64w _ (by omega) (by have := LN7.out; omega)]; rfl
          by_cases h2 : i < l8.length
          · have u2 : decide ((i : Int) < (l8.length : Int)) = true := decide_eq_true (by omega)
            have u2b : decide (i < l8.length) = true := decide_eq_true h2
            have q0 : (0 : Int) ≤ (i : Int) := by omega
            have q1 : (i : Int) < (l7.length : Int) := by omega
            have q2 : (i : Int) < (l8.length : Int) := by omega
            obtain ⟨x1, e1, y1⟩ := Kd.at_int (Kd.C_below RA.out HB.out) (i : Int) q0 q1
            obtain ⟨x2, e2, y2⟩ := Kd.at_int (Kd.C_below RY8.out HB.out) (i : Int) q0 q2
            cases e1
            cases e2
            have g7 := rd_get l7 i h1
            have g8 := rd_get l8 i h2
            simp only [Int.toNat_natCast] at y1 y2
            generalize rd l7 (i : Int) = u at y1 g7
            generalize rd l8 (i : Int) = v at y2 g8
            by_cases huv : u = v
            · subst huv
              have v1 : (u != u) = false := by simp
              have nE : Aside0 (keyV e nf r ≠ keyV a ng s → ∀ j, j < i + 1 → l7[j]? = l8[j]?) := ⟨fun h j hj => by
                by_cases e1 : j = i
                · rw [e1, g7, g8]
                · exact HE.out h j (by omega)⟩
              have nI : Aside0 (i + 1 ≤ l7.length ∧ i + 1 + k1 = l7.length + 1) := ⟨by have := HI.out; omega⟩
              clear HE HI g7 g8
              go_wp2
              go_quiet (fail)
              go_wp2
              go_roundg k1
              case rel => exact ⟨i + 1, by first | rfl | rw [ki], nI, nE, ⟨pw_below_drewN HB.out nq⟩⟩
              case measure => omega
            · have v1 : (u != v) = true := by simp [huv]
              have hz : u ≠ 0 := fun h => by have := ((AU.out (by have := HK.out; omega) i (HE.out (by have := HK.out; omega))).2 u v g7 g8 huv).2 h; have := HK.out; omega
              have v2 : (u == 0) = false := by simp [hz]
              clear HE HI hz g7 g8 huv
              go_wp2
              go_quiet (fail)
              go_wp2
              go_ret
              exact ⟨rfl, below_step B8.out (pw_below_drewN HB.out nq)⟩
          · have u2 : decide ((i : Int) < (l8.length : Int)) = false := decide_eq_false (by omega)
            have u2b : decide (i < l8.length) = false := decide_eq_false h2
            exact absurd (AU.out (by have := HK.out; omega) i (HE.out (by have := HK.out; omega))).1 (by omega)
        · have u1 : decide ((i : Int) < (l7.length : Int)) = false := decide_eq_false (by omega)
          have u1b : decide (i < l7.length) = false := decide_eq_false h1
          exact absurd (AU.out (by have := HK.out; omega) i (HE.out (by have := HK.out; omega))).1 (by omega))
end Go.Proofs.YtjhnkncmdeineaaDoor.P
