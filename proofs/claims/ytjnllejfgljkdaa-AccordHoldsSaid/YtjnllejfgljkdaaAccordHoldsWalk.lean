/- Once it follows, a slave is never further from its master than the bound: the walk, for every config, start and acts. Condition: the slice's cells can be read. -/
import Derived.Test.YtjnllejfgljkdaaAccordBoundsPlain
import Derived.Test.YtjnllejfgljkdaaAccordHoldsPlain
namespace Go.Proofs.Ytjnllejfgljkdaa.P
open Go.RowKit Go.Proofs.YtjnllejfgljkdaaW.PrintWords Go.Proofs.YtjnllejfgljkdaaW.PrintLast Go.Proofs.YtjnllejfgljkdaaW.PrintMore
set_option linter.unusedVariables false
set_option linter.unusedSimpArgs false
theorem cfg_small {n d tu : Int} (n0 : 2 ≤ n) (n1 : n ≤ 5001) (d0 : 0 ≤ d) (d1 : 2 * d < n) (t0 : 0 ≤ tu) (t1 : tu ≤ 4096) : Cfg n d tu (slopeV n d tu) ∧ rB n d tu = true := by
  have h1 : (n + d) * tu ≤ (n + d) * 4096 := Int.mul_le_mul_of_nonneg_left t1 (by omega)
  have h2 := Int.mul_nonneg (show 0 ≤ n + d by omega) t0
  refine ⟨⟨⟨n0, n1⟩, ⟨d0, d1⟩, ⟨t0, t1⟩, ?_, ?_⟩, ?_⟩
  · unfold wpart slopeV
    generalize (n + d) * tu = P at *
    split <;> omega
  · unfold wpart
    generalize (n + d) * tu = P at *
    omega
  · unfold rB rightB
    rw [decide_eq_true (by omega), decide_eq_true (by omega)]
    rfl
theorem inv0 (n d tu A s0 : Int) (s00 : 0 ≤ s0) (s01 : s0 ≤ 1125899906842624) (t0 : 0 ≤ tu) : Inv n d tu A 0 (S0 s0) :=
  ⟨by show (0 : Int) ≤ 0 ∧ (0 : Int) ≤ 2400; omega, by show (0 : Int) ≤ 0 ∧ (0 : Int) ≤ 0 * 8192; omega, by show (0 : Int) ≤ 0 ∧ (0 : Int) ≤ 0 * 8192; omega, ⟨rfl, rfl, rfl, rfl⟩,
    by show (0 : Int) ≤ 0 ∧ (0 : Int) ≤ 0 ∧ 1048576 - tu ≤ 1048576 ∧ (1048576 : Int) ≤ 1048576 + tu ∧ -4503599627370496 ≤ s0 ∧ s0 ≤ 4503599627370496; omega,
    (fun _ _ _ e => by cases e), (fun _ _ _ e => by cases e), (fun e => by cases e), by omega⟩
theorem fit_le {x b : Int} (h : x ≤ b) (h0 : 0 ≤ b) : (fit64 x).1 ≤ b := by
  unfold fit64
  split
  · exact h
  · exact h0
theorem keep5_at {W W' : World} {p mo mc so sc : Nat} {n d tu : Int} {w : World} {S : AS} {vn va : Value} (h : Keep5 W W' p mo mc so sc) (hp : PA w W p mo mc so sc n d tu S vn va) {q : Nat} {cs : Array Value} (hq : W.heap[q]? = some (.cells cs 46 (0, 0))) : W'.heap[q]? = some (.cells cs 46 (0, 0)) :=
  (h.2 q (blk_lt hq) (ne_type hq hp.pr (by decide)) (ne_type hq hp.om (by decide)) (ne_type hq hp.tm (by decide)) (ne_type hq hp.os (by decide)) (ne_type hq hp.ts (by decide))).trans hq
theorem tdiv3 (z : Int) (h : In64 z) : wrap64 (Int.tdiv z 3) = Int.tdiv z 3 := by
  have hz := h.def
  by_cases c : 0 ≤ z
  · rw [Int.tdiv_eq_ediv_of_nonneg c]
    exact wr64 _ (by omega) (by omega)
  · have e : Int.tdiv z 3 = -((-z) / 3) := by rw [← Int.tdiv_eq_ediv_of_nonneg (show 0 ≤ -z by omega), Int.neg_tdiv, Int.neg_neg]
    rw [e]
    exact wr64 _ (by omega) (by omega)
theorem tdiv5 (z : Int) (h : In64 z) : wrap64 (Int.tdiv z 5) = Int.tdiv z 5 := by
  have hz := h.def
  by_cases c : 0 ≤ z
  · rw [Int.tdiv_eq_ediv_of_nonneg c]
    exact wr64 _ (by omega) (by omega)
  · have e : Int.tdiv z 5 = -((-z) / 5) := by rw [← Int.tdiv_eq_ediv_of_nonneg (show 0 ≤ -z by omega), Int.neg_tdiv, Int.neg_neg]
    rw [e]
    exact wr64 _ (by omega) (by omega)
set_option maxHeartbeats 8000000 in
set_option maxRecDepth 100000 in
theorem Holds_core (a0 a1 a2 n d tu st s0 : Int) (A : Option Addr) (len cap : Nat) (w : World) (h : Acts5 w A len) (hn : smN a0 = n) (hd : smD a0 a1 = d) (ht : smT a2 = tu) (hs : bits .and .i64 st 1125899906842623 = s0) (s00 : 0 ≤ s0) (s01 : s0 ≤ 1125899906842624) :
    Calls Try.prog 5 #[.agg #[.int .i64 a0, .int .i64 a1, .int .i64 a2], .int .i64 st, .slice A len cap] w fun e w' => e = .returned (.bool true) ∧ Below w.heap.size w w' := by
  have HR := Aside0.mk h
  have rg := sm_range a0 a1 a2
  rw [hn, hd, ht] at rg
  have hcfg := cfg_small rg.1 rg.2.1 rg.2.2.1 rg.2.2.2.1 rg.2.2.2.2.1 rg.2.2.2.2.2.1
  obtain ⟨A', hA'⟩ : ∃ A', slopeV n d tu = A' := ⟨_, rfl⟩
  rw [hA'] at hcfg
  have HC := Aside0.mk hcfg
  have HA' := Aside0.mk hA'
  have I0 := Aside0.mk (inv0 n d tu A' s0 s00 s01 rg.2.2.2.2.1)
  have HD : Aside0 (0 ≤ n ∧ n ≤ 100000 ∧ 0 ≤ d ∧ d ≤ 100000) := ⟨by omega⟩
  have hr := small_right n d tu rg.1 rg.2.1 rg.2.2.1 rg.2.2.2.1 rg.2.2.2.2.1 rg.2.2.2.2.2.1
  have HQ := Aside0.mk hr
  have HB : Aside0 (1 ≤ n ∧ n ≤ 1048576 ∧ 0 ≤ tu ∧ tu ≤ 4096 ∧ 0 ≤ s0 ∧ s0 ≤ 1125899906842624) := ⟨by omega⟩
  have HW := Aside0.mk (start_within s0 s00 s01)
  have HS := Aside0.mk (Small_calls a0 a1 a2 (w.alloc (.cells #[.int .i64 a0, .int .i64 a1, .int .i64 a2] 25)))
  rw [hn, hd, ht] at HS
  clear h rg hr s00 s01 hn hd ht hcfg hA'
  have hu25 := Try.underlying25
  have hu46 := Try.underlying46
  have X0 := Aside0.mk (blk_new w (.cells #[.int .i64 a0, .int .i64 a1, .int .i64 a2] 25))
  obtain ⟨c0, c1, c2⟩ := cells3a X0.out
  go_enter Try.func5, Try.ntmps5
  go_wp2_with fail
  (with_reducible refine HS.out.mono ?_); rintro e w1 ⟨rfl, hb⟩
  have X1 := Aside0.mk (blk_below X0.out hb)
  have B1 := Aside0.mk (below_step (below_alloc (Below.refl w.heap.size w) _) hb)
  clear hb X0 c0 c1 c2 HS
  obtain ⟨c0, c1, c2⟩ := cells3a X1.out
  obtain ⟨f0, f1, f2⟩ := cells3f X1.out
  go_wp2_with fail
  have BS : Aside0 (Below w.heap.size w (((w1.setCell ⟨w.heap.size, 0, none⟩ (.int .i64 n)).setCell ⟨w.heap.size, 1, none⟩ (.int .i64 d)).setCell ⟨w.heap.size, 2, none⟩ (.int .i64 tu))) := ⟨below_set (below_set (below_set B1.out (Nat.le_refl _)) (Nat.le_refl _)) (Nat.le_refl _)⟩
  have CX : Aside0 ((((w1.setCell ⟨w.heap.size, 0, none⟩ (.int .i64 n)).setCell ⟨w.heap.size, 1, none⟩ (.int .i64 d)).setCell ⟨w.heap.size, 2, none⟩ (.int .i64 tu)).heap[w.heap.size]? = some (.cells #[.int .i64 n, .int .i64 d, .int .i64 tu] 25 (0, 0))) := ⟨blk_put (blk_put (blk_put X1.out 0 _ rfl) 1 _ rfl) 2 _ rfl⟩
  (with_reducible refine (PNew_yes n d tu s0 _ HQ.out.2 HQ.out.1 HW.out HB.out.2.2.2.2.1 HB.out.2.2.2.2.2).mono ?_)
  clear B1 X1 c0 c1 c2 f0 f1 f2
  generalize (((w1.setCell ⟨w.heap.size, 0, none⟩ (.int .i64 n)).setCell ⟨w.heap.size, 1, none⟩ (.int .i64 d)).setCell ⟨w.heap.size, 2, none⟩ (.int .i64 tu)) = W1 at *
  rintro e w2 ⟨p, mo, mc, so, sc, rfl, h1⟩
  have K1 := Aside0.mk h1
  clear h1
  go_wp2
  go_loopg [9, 10] 60 (fun kq v9 v10 w' => ∃ (i : Int) (S : AS) (vn va : Value) (most : Int), v9 = .int .i64 most ∧ v10 = .int .i64 i ∧ Aside0 (0 ≤ i ∧ i + kq = 60) ∧ Aside0 (PA W1 w' p mo mc so sc n d tu S vn va) ∧ Aside0 (Inv n d tu A' most S ∧ S.bits ≤ 40 * i))
  case atStart => exact ⟨0, S0 s0, _, _, 0, rfl, rfl, ⟨by omega⟩, K1, ⟨I0.out, by show (0 : Int) ≤ 40 * 0; omega⟩⟩
  case round =>
    obtain ⟨i, S, vn, va, most, rfl, rfl, HI, K, INV⟩ := hrel
    clear K1 I0
    by_cases t1 : i < (len : Int)
    · have u1 : decide (i < (len : Int)) = true := decide_eq_true t1
      by_cases t2 : i < 60
      · have u2 : decide (i < 60) = true := decide_eq_true t2
        obtain ⟨k1, rfl⟩ : ∃ k1, gk = k1 + 1 := ⟨gk - 1, by have := HI.out; omega⟩
        have hlt : i.toNat < len := by have := HI.out; omega
        obtain ⟨ad, z0, z1, z2, z3, z4, rfl, AA, j0, j1, j2, j3, j4⟩ := HR.out i.toNat hlt
        have JJ := Aside0.mk (And.intro j2 (And.intro j3 j4))
        have BW := Aside0.mk (below_step BS.out K.out.B)
        have a0 := pw_cell_below BW.out AA.1
        have a1 := pw_cell_below BW.out AA.2.1
        have a2 := pw_cell_below BW.out AA.2.2.1
        have a3 := pw_cell_below BW.out AA.2.2.2.1
        have a4 := pw_cell_below BW.out AA.2.2.2.2
        have HI' : Aside0 (0 ≤ i + 1 ∧ i + 1 + k1 = 60) := ⟨by have := HI.out; omega⟩
        have hi1 : wrap64 (i + 1) = i + 1 := wr64 _ (by have := HI.out; omega) (by have := HI.out; omega)
        have p0 : (0 ≤ i) = True := eq_true HI.out.1
        have q0 : (i < (len : Int)) = True := eq_true t1
        have KA := Aside0.mk (K.out.alloc (.cells #[.int .i64 z0, .int .i64 z1, .int .i64 z2, .int .i64 z3, .int .i64 z4] 46))
        have BX := Aside0.mk (blk_new wr (.cells #[.int .i64 z0, .int .i64 z1, .int .i64 z2, .int .i64 z3, .int .i64 z4] 46))
        obtain ⟨c0, c1, c2⟩ := cells3a (blk_below CX.out KA.out.B)
        obtain ⟨x0, x1, x2, x3, x4⟩ := cells5a BX.out
        clear hlt t1 t2 j0 j1 j2 j3 j4 AA
        by_cases y0 : z0 = 0
        · have v0 : (z0 == 0) = true := by rw [y0]; rfl
          clear y0
          obtain ⟨S', ho, e_b, _, hI⟩ := INV.out.1.cap HC.out.1
          have HO := Aside0.mk ho
          have INV' : Aside0 (Inv n d tu A' most S' ∧ S'.bits ≤ 40 * (i + 1)) := ⟨hI, by have := INV.out.2; omega⟩
          clear ho e_b hI
          go_wp2_with fail
          (with_reducible refine (PCapture _ _ p mo mc so sc n d tu S vn va true S' KA.out HO.out).mono ?_); rintro e w5 ⟨rfl, vn', h5, _⟩
          have K5 := Aside0.mk h5
          clear h5 K KA
          go_wp2
          go_roundg k1
          case measure => omega
          case rel => exact ⟨i + 1, S', _, _, most, rfl, by rw [hi1], HI', K5, INV'⟩
        have v0 : (z0 == 0) = false := by rw [beq_eq_false_iff_ne]; exact y0
        clear y0
        by_cases y1 : z0 = 1
        · have v1 : (z0 == 1) = true := by rw [y1]; rfl
          clear y1
          obtain ⟨mm, hmm⟩ : ∃ mm, Int.tmod z4 (tu + 1) = mm := ⟨_, rfl⟩
          have r1 := Int.tmod_lt_of_pos z4 (show (0 : Int) < tu + 1 by have := HB.out; omega)
          have r2 := Int.lt_tmod_of_pos z4 (show (0 : Int) < tu + 1 by have := HB.out; omega)
          rw [hmm] at r1 r2
          have e1 : wrap64 (tu + 1) = tu + 1 := wr64 _ (by have := HB.out; omega) (by have := HB.out; omega)
          have e2 : (tu + 1 = 0) = False := eq_false (by have := HB.out; omega)
          have e3 : wrap64 (1048576 + mm) = 1048576 + mm := wr64 _ (by have := HB.out; omega) (by have := HB.out; omega)
          have e2b : ¬ (tu + 1 = 0) := by have := HB.out; omega
          obtain ⟨rr, S', ho, e_b, _, hI⟩ := INV.out.1.app HC.out.1 (1048576 + mm) (by omega) (by omega)
          have HO := Aside0.mk ho
          have EB := Aside0.mk e_b
          have HII := Aside0.mk hI
          clear ho e_b hI r1 r2
          go_wp2_with fail
          (with_reducible refine (PApply _ _ p mo mc so sc n d tu S vn va (1048576 + mm) rr S' KA.out HB.out.2.2.1 HB.out.2.2.2.1 HO.out).mono ?_); rintro e w5 ⟨rfl, vn', va', h5, _⟩
          have K5 := Aside0.mk h5
          clear h5 K KA c0 c1 c2 x0 x1 x2 x3 x4
          obtain ⟨gp, hgp⟩ : ∃ gp, gapS S' = gp := ⟨_, rfl⟩
          have HGP := Aside0.mk hgp
          clear hgp
          go_wp2_with fail
          (with_reducible refine (PGap _ _ p mo mc so sc n d tu S' _ _ K5.out).mono ?_); rintro e w6 ⟨rfl, hb⟩
          rw [HGP.out]
          have K6 := Aside0.mk (K5.out.below hb)
          clear hb K5
          have hI := HII.out
          rw [HGP.out] at hI
          by_cases cg : most < gp
          · rw [if_pos cg] at hI
            have INV' : Aside0 (Inv n d tu A' gp S' ∧ S'.bits ≤ 40 * (i + 1)) := ⟨hI, by have := INV.out.2; have := EB.out; omega⟩
            clear hI
            go_wp2
            go_roundg k1
            case measure => omega
            case rel => exact ⟨i + 1, S', _, _, gp, rfl, by rw [hi1], HI', K6, INV'⟩
          · rw [if_neg cg] at hI
            have INV' : Aside0 (Inv n d tu A' most S' ∧ S'.bits ≤ 40 * (i + 1)) := ⟨hI, by have := INV.out.2; have := EB.out; omega⟩
            clear hI
            go_wp2
            go_roundg k1
            case measure => omega
            case rel => exact ⟨i + 1, S', _, _, most, rfl, by rw [hi1], HI', K6, INV'⟩
        have v1 : (z0 == 1) = false := by rw [beq_eq_false_iff_ne]; exact y1
        clear y1
        obtain ⟨q, hq⟩ : ∃ q, wr.heap.size = q := ⟨_, rfl⟩
        rw [hq] at BX x0 x1 x2 x3 x4
        go_wp2
        obtain ⟨wo, rfl⟩ : ∃ wo : World, wo = wr := ⟨_, rfl⟩
        go_loopg [9, 12] 40 (fun kq v9 v12 w' => ∃ (k : Int) (S : AS) (vn va : Value) (most : Int), v9 = .int .i64 most ∧ v12 = .int .i64 k ∧ Aside0 (0 ≤ k ∧ k + kq = 40) ∧ Aside0 (PA W1 w' p mo mc so sc n d tu S vn va) ∧ Aside0 (w'.heap[q]? = some (.cells #[.int .i64 z0, .int .i64 z1, .int .i64 z2, .int .i64 z3, .int .i64 z4] 46 (0, 0))) ∧ Aside0 (Inv n d tu A' most S ∧ S.bits ≤ 40 * i + k))
        case atStart => exact ⟨0, S, _, _, most, rfl, rfl, ⟨by omega⟩, KA, BX, ⟨INV.out.1, by have := INV.out.2; omega⟩⟩
        case round =>
          clear KA BX x0 x1 x2 x3 x4 c0 c1 c2 K INV
          obtain ⟨k, S, vn, va, most, rfl, rfl, HK, K2, BX, INV2⟩ := hrel
          obtain ⟨c0, c1, c2⟩ := cells3a (blk_below CX.out K2.out.B)
          obtain ⟨x0, x1, x2, x3, x4⟩ := cells5a BX.out
          by_cases s1 : k < z1
          · have m1 : decide (k < z1) = true := decide_eq_true s1
            by_cases s2 : k < 40
            · have m2 : decide (k < 40) = true := decide_eq_true s2
              obtain ⟨k2, rfl⟩ : ∃ k2, gk = k2 + 1 := ⟨gk - 1, by have := HK.out; omega⟩
              have HK' : Aside0 (0 ≤ k + 1 ∧ k + 1 + k2 = 40) := ⟨by have := HK.out; omega⟩
              have hk1 : wrap64 (k + 1) = k + 1 := wr64 _ (by have := HK.out; omega) (by have := HK.out; omega)
              obtain ⟨par, hpar⟩ : ∃ par, (Int.tmod k 2 == 1) = par := ⟨_, rfl⟩
              clear s1 s2
              go_wp2_with fail
              go_region_held3 (fun w' => w'.cell? ⟨w.heap.size, 0, none⟩ = some (.int .i64 n) ∧ w'.cell? ⟨w.heap.size, 1, none⟩ = some (.int .i64 d) ∧ w'.cell? ⟨w.heap.size, 2, none⟩ = some (.int .i64 tu) ∧ w'.cell? ⟨q, 2, none⟩ = some (.int .i64 z2) ∧ w'.cell? ⟨q, 3, none⟩ = some (.int .i64 z3)) (go_keep)
                (first
                  | (go_at_call 29; (with_reducible refine (within_calls n d tu z2 _ HD.out.1 HD.out.2.1 HD.out.2.2.1 HD.out.2.2.2).mono ?_); rintro e wa ⟨rfl, hb⟩; have K3m := Aside0.mk (K2.out.drew.below hb); have BX3m := Aside0.mk (blk_below (blk_drew BX.out) hb); clear hb c0 c1 c2 x0 x1 x2 x3 x4; obtain ⟨c0, c1, c2⟩ := cells3a (blk_below CX.out K3m.out.B); obtain ⟨x0, x1, x2, x3, x4⟩ := cells5a BX3m.out)
                  | (go_at_call 29; (with_reducible refine (within_calls n d tu z3 _ HD.out.1 HD.out.2.1 HD.out.2.2.1 HD.out.2.2.2).mono ?_); rintro e wb ⟨rfl, hb⟩; have K3 := Aside0.mk (K3m.out.below hb); have BX3 := Aside0.mk (blk_below BX3m.out hb); clear hb c0 c1 c2 x0 x1 x2 x3 x4; obtain ⟨c0, c1, c2⟩ := cells3a (blk_below CX.out K3.out.B); obtain ⟨x0, x1, x2, x3, x4⟩ := cells5a BX3.out))

              cases par with
              | false =>
                go_wp2_with fail
                obtain ⟨S', ho, e_b, hII⟩ := INV2.out.1.step HC.out.1 (wiT n d z2) (wiT n d z3) (wiT_range n d _ HD.out.2.2.1).1 (wiT_range n d _ HD.out.2.2.1).2 (wiT_range n d _ HD.out.2.2.1).1 (wiT_range n d _ HD.out.2.2.1).2 (by have := INV2.out.2; have := HI.out; have := HK.out; omega) K3.out.ok.ls
                have HO := Aside0.mk ho
                have EB := Aside0.mk e_b
                have HII := Aside0.mk hII
                clear ho e_b hII
                go_wp2_with fail
                (with_reducible refine (PStep _ _ p mo mc so sc n d tu S vn va (wiT n d z2) (wiT n d z3) 0 S' K3.out HB.out.1 HB.out.2.1 HO.out).mono ?_); rintro e w5 ⟨rfl, h5, hk5⟩
                have K5 := Aside0.mk h5
                have BX5 := Aside0.mk (keep5_at hk5 K3.out BX3.out)
                clear h5 hk5 c0 c1 c2 x0 x1 x2 x3 x4
                obtain ⟨gp, hgp⟩ : ∃ gp, gapS S' = gp := ⟨_, rfl⟩
                have HGP := Aside0.mk hgp
                clear hgp
                go_wp2_with fail
                (with_reducible refine (PGap _ _ p mo mc so sc n d tu S' _ _ K5.out).mono ?_); rintro e w6 ⟨rfl, hb⟩
                rw [HGP.out]
                have K7 := Aside0.mk (K5.out.below hb)
                have BX7 := Aside0.mk (blk_below BX5.out hb)
                clear hb K5 BX5
                have hII := HII.out
                rw [HGP.out] at hII
                by_cases cg : most < gp
                · rw [if_pos cg] at hII
                  have cgb : decide (most < gp) = true := decide_eq_true cg
                  have INV'' : Aside0 (Inv n d tu A' gp S' ∧ S'.bits ≤ 40 * i + (k + 1)) := ⟨hII.1, by have := INV2.out.2; have := EB.out; omega⟩
                  have NEAR := Aside0.mk hII.2
                  have HMR := Aside0.mk hII.1.mo
                  clear hII
                  obtain ⟨dd, od, hdd⟩ : ∃ dd od, fit64 (absd S'.lm S'.ls) = (dd, od) := ⟨_, _, rfl⟩
                  have HDD := Aside0.mk hdd
                  have DF : Aside0 (bellbuoyref01_Dist.f S'.lm S'.ls = some (dd, od)) := ⟨by rw [refDist_eq _ _ K7.out.ok.lm.1 K7.out.ok.lm.2 K7.out.ok.ls.1 K7.out.ok.ls.2, hdd]⟩
                  have BF : Aside0 (bellbuoyref19_Bound.f 200 n d tu gp = some (A' * gp + 4, true)) := ⟨by rw [refBound_eq n d tu gp 199 (by omega), boundV, if_pos ⟨HC.out.2, HMR.out.1, by have := HMR.out.2; omega⟩, HA'.out]⟩
                  have PF : Aside0 (bellbuoylaw19_plain.f n d tu = some (n, d, tu)) := ⟨rfl⟩
                  clear hdd
                  go_wp2_with fail
                  (with_reducible refine (PMaster _ _ p mo mc so sc n d tu S' _ _ K7.out).mono ?_); rintro e w7 ⟨rfl, rfl⟩
                  go_wp2_with fail
                  (with_reducible refine (PSlave _ _ p mo mc so sc n d tu S' _ _ K7.out).mono ?_); rintro e w7 ⟨rfl, rfl⟩
                  go_wp2_with fail
                  (with_reducible refine (bellbuoyref01_Dist.calls S'.lm S'.ls dd od _ DF.out).mono ?_); rintro e w8 hq; obtain ⟨rfl, hq2⟩ := hq
                  have hb8 : Below w6.heap.size w6 w8 := by first | exact hq2 | (obtain ⟨mq, rfl⟩ := hq2; exact pw_below_drewN (Below.refl _ _) mq)
                  have K8 := Aside0.mk (K7.out.below hb8)
                  have BX8 := Aside0.mk (blk_below BX7.out hb8)
                  clear hb8 hq2 K7 BX7
                  obtain ⟨c0, c1, c2⟩ := cells3a (blk_below CX.out K8.out.B)
                  go_wp2_with fail
                  (with_reducible refine (bellbuoylaw19_plain.calls n d tu n d tu _ PF.out).mono ?_); rintro e w9 ⟨rfl, hb⟩
                  have K9 := Aside0.mk (K8.out.below hb)
                  have BX9 := Aside0.mk (blk_below BX8.out hb)
                  clear hb K8 BX8 c0 c1 c2
                  go_wp2_with fail
                  (with_reducible refine (bellbuoyref19_Bound.calls 200 n d tu gp (A' * gp + 4) true _ BF.out).mono ?_); rintro e w10 ⟨rfl, hb⟩
                  have K10 := Aside0.mk (K9.out.below hb)
                  have BX10 := Aside0.mk (blk_below BX9.out hb)
                  clear hb K9 BX9
                  go_wp2_with fail
                  (with_reducible refine (PSettled _ _ p mo mc so sc n d tu S' _ _ K10.out).mono ?_); rintro e w11 ⟨rfl, rfl⟩
                  cases hf : S'.follows with
                  | true =>
                    have hnear := NEAR.out hf
                    have hle : dd ≤ A' * gp + 4 := by
                      have := fit_le hnear (by have := mono_mul HC.out.1.A0 HMR.out.1; rw [Int.mul_zero] at this; omega)
                      rw [HDD.out] at this
                      exact this
                    have hgt : decide (A' * gp + 4 < dd) = false := decide_eq_false (by omega)
                    clear hnear hle hf
                    go_wp2
                    go_roundg k2
                    case measure => omega
                    case rel => exact ⟨k + 1, S', _, _, gp, rfl, by rw [hk1], HK', K10, BX10, INV''⟩
                  | false =>
                    clear hf
                    go_wp2
                    go_roundg k2
                    case measure => omega
                    case rel => exact ⟨k + 1, S', _, _, gp, rfl, by rw [hk1], HK', K10, BX10, INV''⟩
                · rw [if_neg cg] at hII
                  have cgb : decide (most < gp) = false := decide_eq_false cg
                  have INV'' : Aside0 (Inv n d tu A' most S' ∧ S'.bits ≤ 40 * i + (k + 1)) := ⟨hII.1, by have := INV2.out.2; have := EB.out; omega⟩
                  have NEAR := Aside0.mk hII.2
                  have HMR := Aside0.mk hII.1.mo
                  clear hII
                  obtain ⟨dd, od, hdd⟩ : ∃ dd od, fit64 (absd S'.lm S'.ls) = (dd, od) := ⟨_, _, rfl⟩
                  have HDD := Aside0.mk hdd
                  have DF : Aside0 (bellbuoyref01_Dist.f S'.lm S'.ls = some (dd, od)) := ⟨by rw [refDist_eq _ _ K7.out.ok.lm.1 K7.out.ok.lm.2 K7.out.ok.ls.1 K7.out.ok.ls.2, hdd]⟩
                  have BF : Aside0 (bellbuoyref19_Bound.f 200 n d tu most = some (A' * most + 4, true)) := ⟨by rw [refBound_eq n d tu most 199 (by omega), boundV, if_pos ⟨HC.out.2, HMR.out.1, by have := HMR.out.2; omega⟩, HA'.out]⟩
                  have PF : Aside0 (bellbuoylaw19_plain.f n d tu = some (n, d, tu)) := ⟨rfl⟩
                  clear hdd
                  go_wp2_with fail
                  (with_reducible refine (PMaster _ _ p mo mc so sc n d tu S' _ _ K7.out).mono ?_); rintro e w7 ⟨rfl, rfl⟩
                  go_wp2_with fail
                  (with_reducible refine (PSlave _ _ p mo mc so sc n d tu S' _ _ K7.out).mono ?_); rintro e w7 ⟨rfl, rfl⟩
                  go_wp2_with fail
                  (with_reducible refine (bellbuoyref01_Dist.calls S'.lm S'.ls dd od _ DF.out).mono ?_); rintro e w8 hq; obtain ⟨rfl, hq2⟩ := hq
                  have hb8 : Below w6.heap.size w6 w8 := by first | exact hq2 | (obtain ⟨mq, rfl⟩ := hq2; exact pw_below_drewN (Below.refl _ _) mq)
                  have K8 := Aside0.mk (K7.out.below hb8)
                  have BX8 := Aside0.mk (blk_below BX7.out hb8)
                  clear hb8 hq2 K7 BX7
                  obtain ⟨c0, c1, c2⟩ := cells3a (blk_below CX.out K8.out.B)
                  go_wp2_with fail
                  (with_reducible refine (bellbuoylaw19_plain.calls n d tu n d tu _ PF.out).mono ?_); rintro e w9 ⟨rfl, hb⟩
                  have K9 := Aside0.mk (K8.out.below hb)
                  have BX9 := Aside0.mk (blk_below BX8.out hb)
                  clear hb K8 BX8 c0 c1 c2
                  go_wp2_with fail
                  (with_reducible refine (bellbuoyref19_Bound.calls 200 n d tu most (A' * most + 4) true _ BF.out).mono ?_); rintro e w10 ⟨rfl, hb⟩
                  have K10 := Aside0.mk (K9.out.below hb)
                  have BX10 := Aside0.mk (blk_below BX9.out hb)
                  clear hb K9 BX9
                  go_wp2_with fail
                  (with_reducible refine (PSettled _ _ p mo mc so sc n d tu S' _ _ K10.out).mono ?_); rintro e w11 ⟨rfl, rfl⟩
                  cases hf : S'.follows with
                  | true =>
                    have hnear := NEAR.out hf
                    have hle : dd ≤ A' * most + 4 := by
                      have := fit_le hnear (by have := mono_mul HC.out.1.A0 HMR.out.1; rw [Int.mul_zero] at this; omega)
                      rw [HDD.out] at this
                      exact this
                    have hgt : decide (A' * most + 4 < dd) = false := decide_eq_false (by omega)
                    clear hnear hle hf
                    go_wp2
                    go_roundg k2
                    case measure => omega
                    case rel => exact ⟨k + 1, S', _, _, most, rfl, by rw [hk1], HK', K10, BX10, INV''⟩
                  | false =>
                    clear hf
                    go_wp2
                    go_roundg k2
                    case measure => omega
                    case rel => exact ⟨k + 1, S', _, _, most, rfl, by rw [hk1], HK', K10, BX10, INV''⟩

              | true =>
                have dv1 : wrap64 (Int.tdiv z3 3) = Int.tdiv z3 3 := tdiv3 z3 JJ.out.2.1
                have dv2 : wrap64 (Int.tdiv z2 5) = Int.tdiv z2 5 := tdiv5 z2 JJ.out.1
                obtain ⟨y3, hy3⟩ : ∃ y3, Int.tdiv z3 3 = y3 := ⟨_, rfl⟩
                obtain ⟨y5, hy5⟩ : ∃ y5, Int.tdiv z2 5 = y5 := ⟨_, rfl⟩
                rw [hy3] at dv1
                rw [hy5] at dv2
                have dv3 : IntKind.i64.wrap y3 = y3 := by rw [wrap_same]; exact dv1
                have dv4 : IntKind.i64.wrap y5 = y5 := by rw [wrap_same]; exact dv2
                go_wp2_with fail
                go_region_held3 (fun w' => w'.cell? ⟨w.heap.size, 0, none⟩ = some (.int .i64 n) ∧ w'.cell? ⟨w.heap.size, 1, none⟩ = some (.int .i64 d) ∧ w'.cell? ⟨w.heap.size, 2, none⟩ = some (.int .i64 tu) ∧ w'.cell? ⟨q, 2, none⟩ = some (.int .i64 z2) ∧ w'.cell? ⟨q, 3, none⟩ = some (.int .i64 z3)) (go_keep)
                  (first
                    | (go_at_call 29; (with_reducible refine (within_calls n d tu y3 _ HD.out.1 HD.out.2.1 HD.out.2.2.1 HD.out.2.2.2).mono ?_); rintro e wa ⟨rfl, hb⟩; have K4m := Aside0.mk (K3.out.drew.below hb); have BX4m := Aside0.mk (blk_below (blk_drew BX3.out) hb); clear hb c0 c1 c2 x0 x1 x2 x3 x4; obtain ⟨c0, c1, c2⟩ := cells3a (blk_below CX.out K4m.out.B); obtain ⟨x0, x1, x2, x3, x4⟩ := cells5a BX4m.out)
                    | (go_at_call 29; (with_reducible refine (within_calls n d tu y5 _ HD.out.1 HD.out.2.1 HD.out.2.2.1 HD.out.2.2.2).mono ?_); rintro e wb ⟨rfl, hb⟩; have K4 := Aside0.mk (K4m.out.below hb); have BX4 := Aside0.mk (blk_below BX4m.out hb); clear hb c0 c1 c2 x0 x1 x2 x3 x4; obtain ⟨c0, c1, c2⟩ := cells3a (blk_below CX.out K4.out.B); obtain ⟨x0, x1, x2, x3, x4⟩ := cells5a BX4.out))

                go_wp2_with fail
                obtain ⟨S', ho, e_b, hII⟩ := INV2.out.1.step HC.out.1 (wiT n d y3) (wiT n d y5) (wiT_range n d _ HD.out.2.2.1).1 (wiT_range n d _ HD.out.2.2.1).2 (wiT_range n d _ HD.out.2.2.1).1 (wiT_range n d _ HD.out.2.2.1).2 (by have := INV2.out.2; have := HI.out; have := HK.out; omega) K4.out.ok.ls
                have HO := Aside0.mk ho
                have EB := Aside0.mk e_b
                have HII := Aside0.mk hII
                clear ho e_b hII
                go_wp2_with fail
                (with_reducible refine (PStep _ _ p mo mc so sc n d tu S vn va (wiT n d y3) (wiT n d y5) 0 S' K4.out HB.out.1 HB.out.2.1 HO.out).mono ?_); rintro e w5 ⟨rfl, h5, hk5⟩
                have K5 := Aside0.mk h5
                have BX5 := Aside0.mk (keep5_at hk5 K4.out BX4.out)
                clear h5 hk5 c0 c1 c2 x0 x1 x2 x3 x4
                obtain ⟨gp, hgp⟩ : ∃ gp, gapS S' = gp := ⟨_, rfl⟩
                have HGP := Aside0.mk hgp
                clear hgp
                go_wp2_with fail
                (with_reducible refine (PGap _ _ p mo mc so sc n d tu S' _ _ K5.out).mono ?_); rintro e w6 ⟨rfl, hb⟩
                rw [HGP.out]
                have K7 := Aside0.mk (K5.out.below hb)
                have BX7 := Aside0.mk (blk_below BX5.out hb)
                clear hb K5 BX5
                have hII := HII.out
                rw [HGP.out] at hII
                by_cases cg : most < gp
                · rw [if_pos cg] at hII
                  have cgb : decide (most < gp) = true := decide_eq_true cg
                  have INV'' : Aside0 (Inv n d tu A' gp S' ∧ S'.bits ≤ 40 * i + (k + 1)) := ⟨hII.1, by have := INV2.out.2; have := EB.out; omega⟩
                  have NEAR := Aside0.mk hII.2
                  have HMR := Aside0.mk hII.1.mo
                  clear hII
                  obtain ⟨dd, od, hdd⟩ : ∃ dd od, fit64 (absd S'.lm S'.ls) = (dd, od) := ⟨_, _, rfl⟩
                  have HDD := Aside0.mk hdd
                  have DF : Aside0 (bellbuoyref01_Dist.f S'.lm S'.ls = some (dd, od)) := ⟨by rw [refDist_eq _ _ K7.out.ok.lm.1 K7.out.ok.lm.2 K7.out.ok.ls.1 K7.out.ok.ls.2, hdd]⟩
                  have BF : Aside0 (bellbuoyref19_Bound.f 200 n d tu gp = some (A' * gp + 4, true)) := ⟨by rw [refBound_eq n d tu gp 199 (by omega), boundV, if_pos ⟨HC.out.2, HMR.out.1, by have := HMR.out.2; omega⟩, HA'.out]⟩
                  have PF : Aside0 (bellbuoylaw19_plain.f n d tu = some (n, d, tu)) := ⟨rfl⟩
                  clear hdd
                  go_wp2_with fail
                  (with_reducible refine (PMaster _ _ p mo mc so sc n d tu S' _ _ K7.out).mono ?_); rintro e w7 ⟨rfl, rfl⟩
                  go_wp2_with fail
                  (with_reducible refine (PSlave _ _ p mo mc so sc n d tu S' _ _ K7.out).mono ?_); rintro e w7 ⟨rfl, rfl⟩
                  go_wp2_with fail
                  (with_reducible refine (bellbuoyref01_Dist.calls S'.lm S'.ls dd od _ DF.out).mono ?_); rintro e w8 hq; obtain ⟨rfl, hq2⟩ := hq
                  have hb8 : Below w6.heap.size w6 w8 := by first | exact hq2 | (obtain ⟨mq, rfl⟩ := hq2; exact pw_below_drewN (Below.refl _ _) mq)
                  have K8 := Aside0.mk (K7.out.below hb8)
                  have BX8 := Aside0.mk (blk_below BX7.out hb8)
                  clear hb8 hq2 K7 BX7
                  obtain ⟨c0, c1, c2⟩ := cells3a (blk_below CX.out K8.out.B)
                  go_wp2_with fail
                  (with_reducible refine (bellbuoylaw19_plain.calls n d tu n d tu _ PF.out).mono ?_); rintro e w9 ⟨rfl, hb⟩
                  have K9 := Aside0.mk (K8.out.below hb)
                  have BX9 := Aside0.mk (blk_below BX8.out hb)
                  clear hb K8 BX8 c0 c1 c2
                  go_wp2_with fail
                  (with_reducible refine (bellbuoyref19_Bound.calls 200 n d tu gp (A' * gp + 4) true _ BF.out).mono ?_); rintro e w10 ⟨rfl, hb⟩
                  have K10 := Aside0.mk (K9.out.below hb)
                  have BX10 := Aside0.mk (blk_below BX9.out hb)
                  clear hb K9 BX9
                  go_wp2_with fail
                  (with_reducible refine (PSettled _ _ p mo mc so sc n d tu S' _ _ K10.out).mono ?_); rintro e w11 ⟨rfl, rfl⟩
                  cases hf : S'.follows with
                  | true =>
                    have hnear := NEAR.out hf
                    have hle : dd ≤ A' * gp + 4 := by
                      have := fit_le hnear (by have := mono_mul HC.out.1.A0 HMR.out.1; rw [Int.mul_zero] at this; omega)
                      rw [HDD.out] at this
                      exact this
                    have hgt : decide (A' * gp + 4 < dd) = false := decide_eq_false (by omega)
                    clear hnear hle hf
                    go_wp2
                    go_roundg k2
                    case measure => omega
                    case rel => exact ⟨k + 1, S', _, _, gp, rfl, by rw [hk1], HK', K10, BX10, INV''⟩
                  | false =>
                    clear hf
                    go_wp2
                    go_roundg k2
                    case measure => omega
                    case rel => exact ⟨k + 1, S', _, _, gp, rfl, by rw [hk1], HK', K10, BX10, INV''⟩
                · rw [if_neg cg] at hII
                  have cgb : decide (most < gp) = false := decide_eq_false cg
                  have INV'' : Aside0 (Inv n d tu A' most S' ∧ S'.bits ≤ 40 * i + (k + 1)) := ⟨hII.1, by have := INV2.out.2; have := EB.out; omega⟩
                  have NEAR := Aside0.mk hII.2
                  have HMR := Aside0.mk hII.1.mo
                  clear hII
                  obtain ⟨dd, od, hdd⟩ : ∃ dd od, fit64 (absd S'.lm S'.ls) = (dd, od) := ⟨_, _, rfl⟩
                  have HDD := Aside0.mk hdd
                  have DF : Aside0 (bellbuoyref01_Dist.f S'.lm S'.ls = some (dd, od)) := ⟨by rw [refDist_eq _ _ K7.out.ok.lm.1 K7.out.ok.lm.2 K7.out.ok.ls.1 K7.out.ok.ls.2, hdd]⟩
                  have BF : Aside0 (bellbuoyref19_Bound.f 200 n d tu most = some (A' * most + 4, true)) := ⟨by rw [refBound_eq n d tu most 199 (by omega), boundV, if_pos ⟨HC.out.2, HMR.out.1, by have := HMR.out.2; omega⟩, HA'.out]⟩
                  have PF : Aside0 (bellbuoylaw19_plain.f n d tu = some (n, d, tu)) := ⟨rfl⟩
                  clear hdd
                  go_wp2_with fail
                  (with_reducible refine (PMaster _ _ p mo mc so sc n d tu S' _ _ K7.out).mono ?_); rintro e w7 ⟨rfl, rfl⟩
                  go_wp2_with fail
                  (with_reducible refine (PSlave _ _ p mo mc so sc n d tu S' _ _ K7.out).mono ?_); rintro e w7 ⟨rfl, rfl⟩
                  go_wp2_with fail
                  (with_reducible refine (bellbuoyref01_Dist.calls S'.lm S'.ls dd od _ DF.out).mono ?_); rintro e w8 hq; obtain ⟨rfl, hq2⟩ := hq
                  have hb8 : Below w6.heap.size w6 w8 := by first | exact hq2 | (obtain ⟨mq, rfl⟩ := hq2; exact pw_below_drewN (Below.refl _ _) mq)
                  have K8 := Aside0.mk (K7.out.below hb8)
                  have BX8 := Aside0.mk (blk_below BX7.out hb8)
                  clear hb8 hq2 K7 BX7
                  obtain ⟨c0, c1, c2⟩ := cells3a (blk_below CX.out K8.out.B)
                  go_wp2_with fail
                  (with_reducible refine (bellbuoylaw19_plain.calls n d tu n d tu _ PF.out).mono ?_); rintro e w9 ⟨rfl, hb⟩
                  have K9 := Aside0.mk (K8.out.below hb)
                  have BX9 := Aside0.mk (blk_below BX8.out hb)
                  clear hb K8 BX8 c0 c1 c2
                  go_wp2_with fail
                  (with_reducible refine (bellbuoyref19_Bound.calls 200 n d tu most (A' * most + 4) true _ BF.out).mono ?_); rintro e w10 ⟨rfl, hb⟩
                  have K10 := Aside0.mk (K9.out.below hb)
                  have BX10 := Aside0.mk (blk_below BX9.out hb)
                  clear hb K9 BX9
                  go_wp2_with fail
                  (with_reducible refine (PSettled _ _ p mo mc so sc n d tu S' _ _ K10.out).mono ?_); rintro e w11 ⟨rfl, rfl⟩
                  cases hf : S'.follows with
                  | true =>
                    have hnear := NEAR.out hf
                    have hle : dd ≤ A' * most + 4 := by
                      have := fit_le hnear (by have := mono_mul HC.out.1.A0 HMR.out.1; rw [Int.mul_zero] at this; omega)
                      rw [HDD.out] at this
                      exact this
                    have hgt : decide (A' * most + 4 < dd) = false := decide_eq_false (by omega)
                    clear hnear hle hf
                    go_wp2
                    go_roundg k2
                    case measure => omega
                    case rel => exact ⟨k + 1, S', _, _, most, rfl, by rw [hk1], HK', K10, BX10, INV''⟩
                  | false =>
                    clear hf
                    go_wp2
                    go_roundg k2
                    case measure => omega
                    case rel => exact ⟨k + 1, S', _, _, most, rfl, by rw [hk1], HK', K10, BX10, INV''⟩

            · have m2 : decide (k < 40) = false := decide_eq_false s2
              have INV' : Aside0 (Inv n d tu A' most S ∧ S.bits ≤ 40 * (i + 1)) := ⟨INV2.out.1, by have := INV2.out.2; have := HK.out; omega⟩
              clear s1 s2
              go_wp2
              go_roundg k1
              case measure => omega
              case rel => exact ⟨i + 1, S, _, _, most, rfl, by rw [hi1], HI', K2, INV'⟩
          · have m1 : decide (k < z1) = false := decide_eq_false s1
            have INV' : Aside0 (Inv n d tu A' most S ∧ S.bits ≤ 40 * (i + 1)) := ⟨INV2.out.1, by have := INV2.out.2; have := HK.out; omega⟩
            clear s1
            go_wp2
            go_roundg k1
            case measure => omega
            case rel => exact ⟨i + 1, S, _, _, most, rfl, by rw [hi1], HI', K2, INV'⟩

      · have u2 : decide (i < 60) = false := decide_eq_false t2
        clear t1 t2
        go_wp2_with fail
        (with_reducible refine (live_walk _).mono ?_); rintro e w5 ⟨rfl, hb⟩
        go_wp2_with fail
        go_ret
        exact ⟨rfl, below_step (below_step BS.out K.out.B) hb⟩
    · have u1 : decide (i < (len : Int)) = false := decide_eq_false t1
      clear t1
      go_wp2_with fail
      (with_reducible refine (live_walk _).mono ?_); rintro e w5 ⟨rfl, hb⟩
      go_wp2_with fail
      go_ret
      exact ⟨rfl, below_step (below_step BS.out K.out.B) hb⟩
theorem AccordHolds_walk (a0_0 a0_1 a0_2 a1 : Int) (A : Option Addr) (len cap : Nat) (w : World) (w0_0 : (Lit.int .i64 a0_0).wf = true) (w0_1 : (Lit.int .i64 a0_1).wf = true) (w0_2 : (Lit.int .i64 a0_2).wf = true) (w1 : (Lit.int .i64 a1).wf = true)
    (h : (A = none ∧ len = 0 ∧ cap = 0) ∨ ∃ x, A = some x ∧ len ≤ cap ∧ cap ≤ maxLen ∧ ∀ i, i < len → ∃ (z0 : Int) (z1 : Int) (z2 : Int) (z3 : Int) (z4 : Int), w.cell? (x.add (i * 5 + 0)) = some (.int .i64 z0) ∧ w.cell? (x.add (i * 5 + 1)) = some (.int .i64 z1) ∧ w.cell? (x.add (i * 5 + 2)) = some (.int .i64 z2) ∧ w.cell? (x.add (i * 5 + 3)) = some (.int .i64 z3) ∧ w.cell? (x.add (i * 5 + 4)) = some (.int .i64 z4) ∧ (Lit.int .i64 z0).wf = true ∧ (Lit.int .i64 z1).wf = true ∧ (Lit.int .i64 z2).wf = true ∧ (Lit.int .i64 z3).wf = true ∧ (Lit.int .i64 z4).wf = true) :
    Calls Try.prog 5 #[.agg #[.int .i64 a0_0, .int .i64 a0_1, .int .i64 a0_2], .int .i64 a1, .slice A len cap] w fun e w' => e = .returned (.bool true) ∧ Below w.heap.size w w' := by
  have m := mask50 a1
  exact Holds_core a0_0 a0_1 a0_2 _ _ _ a1 _ A len cap w (acts5_row h) rfl rfl rfl rfl (by rw [m]; omega) (by rw [m]; omega)
end Go.Proofs.Ytjnllejfgljkdaa.P
