/- What both tell never falls, whatever ticks go by, is noted, and applied: the walk, for every config, start and acts. Condition: the slice's cells can be read. -/
import Derived.Test.YtjnllejfgljkdaaAccordSmall
namespace Go.Proofs.Ytjnllejfgljkdaa.P
open Go.RowKit Go.Proofs.YtjnllejfgljkdaaW.PrintWords Go.Proofs.YtjnllejfgljkdaaW.PrintLast Go.Proofs.YtjnllejfgljkdaaW.PrintMore
set_option linter.unusedVariables false
set_option linter.unusedSimpArgs false
theorem add_off (a : Addr) (m j : Nat) : (⟨(a.add m).block, (a.add m).off + (j + 1), none⟩ : Addr) = a.add (m + (j + 1)) := by
  unfold Addr.add
  by_cases hm : m = 0 <;> simp [hm, Nat.add_assoc]
/-- A slice of acts whose cells can be read. -/
def Acts5 (w : World) (A : Option Addr) (len : Nat) : Prop := ∀ i, i < len → ∃ (ad : Addr) (z0 z1 z2 z3 z4 : Int), A = some ad ∧ (w.cell? (ad.add (i * 5)) = some (.int .i64 z0) ∧ w.cell? ⟨(ad.add (i * 5)).block, (ad.add (i * 5)).off + 1, none⟩ = some (.int .i64 z1) ∧ w.cell? ⟨(ad.add (i * 5)).block, (ad.add (i * 5)).off + 2, none⟩ = some (.int .i64 z2) ∧ w.cell? ⟨(ad.add (i * 5)).block, (ad.add (i * 5)).off + 3, none⟩ = some (.int .i64 z3) ∧ w.cell? ⟨(ad.add (i * 5)).block, (ad.add (i * 5)).off + 4, none⟩ = some (.int .i64 z4)) ∧ In64 z0 ∧ In64 z1 ∧ In64 z2 ∧ In64 z3 ∧ In64 z4
theorem acts5_row {w : World} {A : Option Addr} {len cap : Nat} (h : (A = none ∧ len = 0 ∧ cap = 0) ∨ ∃ x, A = some x ∧ len ≤ cap ∧ cap ≤ maxLen ∧ ∀ i, i < len → ∃ (z0 : Int) (z1 : Int) (z2 : Int) (z3 : Int) (z4 : Int), w.cell? (x.add (i * 5 + 0)) = some (.int .i64 z0) ∧ w.cell? (x.add (i * 5 + 1)) = some (.int .i64 z1) ∧ w.cell? (x.add (i * 5 + 2)) = some (.int .i64 z2) ∧ w.cell? (x.add (i * 5 + 3)) = some (.int .i64 z3) ∧ w.cell? (x.add (i * 5 + 4)) = some (.int .i64 z4) ∧ (Lit.int .i64 z0).wf = true ∧ (Lit.int .i64 z1).wf = true ∧ (Lit.int .i64 z2).wf = true ∧ (Lit.int .i64 z3).wf = true ∧ (Lit.int .i64 z4).wf = true) :
    Acts5 w A len := by
  rcases h with ⟨_, rfl, _⟩ | ⟨x, rfl, _, _, hi⟩
  · exact fun i hi => absurd hi (Nat.not_lt_zero _)
  · intro i hlt
    obtain ⟨z0, z1, z2, z3, z4, h0, h1, h2, h3, h4, w0, w1, w2, w3, w4⟩ := hi i hlt
    refine ⟨x, z0, z1, z2, z3, z4, rfl, ?_, wf64 w0, wf64 w1, wf64 w2, wf64 w3, wf64 w4⟩
    rw [add_off x (i * 5) 0, add_off x (i * 5) 1, add_off x (i * 5) 2, add_off x (i * 5) 3]
    exact ⟨h0, h1, h2, h3, h4⟩
theorem cells5a {w : World} {g : Nat} {a b c d e : Value} {t : TypeId} (h : w.heap[g]? = some (.cells #[a, b, c, d, e] t (0, 0))) :
    w.cell? ⟨g, 0, none⟩ = some a ∧ w.cell? ⟨g, 1, none⟩ = some b ∧ w.cell? ⟨g, 2, none⟩ = some c ∧ w.cell? ⟨g, 3, none⟩ = some d ∧ w.cell? ⟨g, 4, none⟩ = some e :=
  ⟨(blk_cell h 0).trans rfl, (blk_cell h 1).trans rfl, (blk_cell h 2).trans rfl, (blk_cell h 3).trans rfl, (blk_cell h 4).trans rfl⟩
theorem step_rises (n d : Int) (S : AS) (x y r : Int) (S' : AS) (h : stepS n d S x y = (r, S')) : S.lm ≤ S'.lm ∧ S.ls ≤ S'.ls := by
  unfold stepS at h
  split at h
  · split at h
    · obtain ⟨_, rfl⟩ := Prod.mk.inj h
      exact ⟨read_le _ _ _, read_le _ _ _⟩
    · obtain ⟨_, rfl⟩ := Prod.mk.inj h
      exact ⟨Int.le_refl _, Int.le_refl _⟩
  · obtain ⟨_, rfl⟩ := Prod.mk.inj h
    exact ⟨Int.le_refl _, Int.le_refl _⟩
theorem cap_same {S S' : AS} {r : Bool} (h : capS S = (r, S')) : S'.lm = S.lm ∧ S'.ls = S.ls := by
  unfold capS at h
  split at h <;> (obtain ⟨_, rfl⟩ := Prod.mk.inj h; exact ⟨rfl, rfl⟩)
theorem app_same {tu : Int} {S S' : AS} {x r : Int} (h : appS tu S x = (r, S')) : S'.lm = S.lm ∧ S'.ls = S.ls := by
  unfold appS at h
  split at h
  · obtain ⟨_, rfl⟩ := Prod.mk.inj h; exact ⟨rfl, rfl⟩
  · split at h
    · simp only [] at h
      split at h
      · split at h <;> (obtain ⟨_, rfl⟩ := Prod.mk.inj h; exact ⟨rfl, rfl⟩)
      · obtain ⟨_, rfl⟩ := Prod.mk.inj h; exact ⟨rfl, rfl⟩
    · obtain ⟨_, rfl⟩ := Prod.mk.inj h; exact ⟨rfl, rfl⟩
/-- A small config can be. -/
theorem small_right (n d t : Int) (n0 : 2 ≤ n) (n1 : n ≤ 5001) (d0 : 0 ≤ d) (d1 : 2 * d < n) (t0 : 0 ≤ t) (t1 : t ≤ 4096) : osc_Right.f n d = some true ∧ accord_Right.f n d t = some true := by
  have h1 : osc_Right.f n d = some true := by
    rw [Right_eq n d (by omega) (by omega), rightB, decide_eq_true (by omega)]
  refine ⟨h1, ?_⟩
  unfold accord_Right.f accord_within.f exact_Clamp.f mn
  rw [h1]
  simp only [Option.bind_some, if_true]
  rw [if_neg (by omega), if_neg (by omega)]
  simp
theorem start_within (s : Int) (s0 : 0 ≤ s) (s1 : s ≤ 1125899906842624) : accord_within.f s 1125899906842624 = some true := by
  unfold accord_within.f exact_Clamp.f mn
  rw [if_neg (by omega), if_neg (by omega)]
  simp
theorem mask50 (n : Int) : bits .and .i64 n 1125899906842623 = n % 1125899906842624 := by
  have h50 : (BitVec.ofInt 64 1125899906842623).toNat = 2 ^ 50 - 1 := by decide
  have key : (BitVec.ofInt 64 n &&& BitVec.ofInt 64 1125899906842623).toNat = (n % ((2 ^ 64 : Nat) : Int)).toNat % 2 ^ 50 := by
    rw [BitVec.toNat_and, BitVec.toNat_ofInt, h50, Nat.and_two_pow_sub_one_eq_mod]
  show IntKind.i64.wrap ((BitVec.ofInt 64 n &&& BitVec.ofInt 64 1125899906842623).toNat : Nat) = n % 1125899906842624
  rw [key, wrap_same, wr64 _ (by omega) (by omega)]
  omega
set_option maxHeartbeats 8000000 in
set_option maxRecDepth 100000 in
theorem Rises_core (a0 a1 a2 n d tu st s0 : Int) (A : Option Addr) (len cap : Nat) (w : World) (h : Acts5 w A len) (hn : smN a0 = n) (hd : smD a0 a1 = d) (ht : smT a2 = tu) (hs : bits .and .i64 st 1125899906842623 = s0) (s00 : 0 ≤ s0) (s01 : s0 ≤ 1125899906842624) :
    Calls Try.prog 6 #[.agg #[.int .i64 a0, .int .i64 a1, .int .i64 a2], .int .i64 st, .slice A len cap] w fun e w' => e = .returned (.bool true) ∧ Below w.heap.size w w' := by
  have HR := Aside0.mk h
  have rg := sm_range a0 a1 a2
  rw [hn, hd, ht] at rg
  have hr := small_right n d tu rg.1 rg.2.1 rg.2.2.1 rg.2.2.2.1 rg.2.2.2.2.1 rg.2.2.2.2.2.1
  have HQ := Aside0.mk hr
  have HB : Aside0 (1 ≤ n ∧ n ≤ 1048576 ∧ 0 ≤ tu ∧ tu ≤ 4096 ∧ 0 ≤ s0 ∧ s0 ≤ 1125899906842624) := ⟨by omega⟩
  have HW := Aside0.mk (start_within s0 s00 s01)
  have HS := Aside0.mk (Small_calls a0 a1 a2 (w.alloc (.cells #[.int .i64 a0, .int .i64 a1, .int .i64 a2] 25)))
  rw [hn, hd, ht] at HS
  clear h rg hr s00 s01 hn hd ht
  have hu25 := Try.underlying25
  have hu46 := Try.underlying46
  have X0 := Aside0.mk (blk_new w (.cells #[.int .i64 a0, .int .i64 a1, .int .i64 a2] 25))
  obtain ⟨c0, c1, c2⟩ := cells3a X0.out
  go_enter Try.func6, Try.ntmps6
  go_wp2_with fail
  (with_reducible refine HS.out.mono ?_); rintro e w1 ⟨rfl, hb⟩
  have X1 := Aside0.mk (blk_below X0.out hb)
  have B1 := Aside0.mk (below_step (below_alloc (Below.refl w.heap.size w) _) hb)
  clear hb X0 c0 c1 c2 HS
  obtain ⟨c0, c1, c2⟩ := cells3a X1.out
  obtain ⟨f0, f1, f2⟩ := cells3f X1.out
  go_wp2_with fail
  have BS : Aside0 (Below w.heap.size w (((w1.setCell ⟨w.heap.size, 0, none⟩ (.int .i64 n)).setCell ⟨w.heap.size, 1, none⟩ (.int .i64 d)).setCell ⟨w.heap.size, 2, none⟩ (.int .i64 tu))) := ⟨below_set (below_set (below_set B1.out (Nat.le_refl _)) (Nat.le_refl _)) (Nat.le_refl _)⟩
  have CX : Aside0 ((((w1.setCell ⟨w.heap.size, 0, none⟩ (.int .i64 n)).setCell ⟨w.heap.size, 1, none⟩ (.int .i64 d)).setCell ⟨w.heap.size, 2, none⟩ (.int .i64 tu)).heap[w.heap.size]? = some (.cells #[.int .i64 n, .int .i64 d, .int .i64 tu] 25 (0, 0))) := ⟨blk_put (blk_put (blk_put X1.out 0 _ rfl) 1 _ rfl) 2 _ rfl⟩
  (with_reducible refine (PNew_yes n d tu s0 _ HQ.out.2 HQ.out.1 HW.out HB.out.2.2.2.2.1 HB.out.2.2.2.2.2).mono ?_)
  clear B1 X1 c0 c1 c2 f0 f1 f2
  generalize (((w1.setCell ⟨w.heap.size, 0, none⟩ (.int .i64 n)).setCell ⟨w.heap.size, 1, none⟩ (.int .i64 d)).setCell ⟨w.heap.size, 2, none⟩ (.int .i64 tu)) = W1 at *
  rintro e w2 ⟨p, mo, mc, so, sc, rfl, h1⟩
  have K1 := Aside0.mk h1
  clear h1
  go_wp2_with fail
  (with_reducible refine (PMaster _ _ p mo mc so sc n d tu (S0 s0) _ _ K1.out).mono ?_); rintro e w3 ⟨rfl, rfl⟩
  go_wp2_with fail
  (with_reducible refine (PSlave _ _ p mo mc so sc n d tu (S0 s0) _ _ K1.out).mono ?_); rintro e w3 ⟨rfl, rfl⟩
  go_wp2
  go_loopg [9, 10, 11] 80 (fun kq v9 v10 v11 w' => ∃ (i : Int) (S : AS) (vn va : Value), v9 = .int .i64 S.lm ∧ v10 = .int .i64 S.ls ∧ v11 = .int .i64 i ∧ Aside0 (0 ≤ i ∧ i + kq = 80) ∧ Aside0 (PA W1 w' p mo mc so sc n d tu S vn va))
  case atStart => exact ⟨0, S0 s0, _, _, rfl, rfl, rfl, ⟨by omega⟩, K1⟩
  case round =>
    obtain ⟨i, S, vn, va, rfl, rfl, rfl, HI, K⟩ := hrel
    clear K1
    by_cases t1 : i < (len : Int)
    · have u1 : decide (i < (len : Int)) = true := decide_eq_true t1
      by_cases t2 : i < 80
      · have u2 : decide (i < 80) = true := decide_eq_true t2
        obtain ⟨k1, rfl⟩ : ∃ k1, gk = k1 + 1 := ⟨gk - 1, by have := HI.out; omega⟩
        have hlt : i.toNat < len := by have := HI.out; omega
        obtain ⟨ad, z0, z1, z2, z3, z4, rfl, AA, j0, j1, j2, j3, j4⟩ := HR.out i.toNat hlt
        have JJ := Aside0.mk (And.intro j2 (And.intro j3 j4))
        have BW := Aside0.mk (below_step BS.out K.out.B)
        have a0 := pw_cell_below BW.out AA.1
        have a1 := pw_cell_below BW.out AA.2.1
        have a2 := pw_cell_below BW.out AA.2.2.1
        have a3 := pw_cell_below BW.out AA.2.2.2.1
        have a4 := pw_cell_below BW.out AA.2.2.2.2
        have HI' : Aside0 (0 ≤ i + 1 ∧ i + 1 + k1 = 80) := ⟨by have := HI.out; omega⟩
        have hi1 : wrap64 (i + 1) = i + 1 := wr64 _ (by have := HI.out; omega) (by have := HI.out; omega)
        have p0 : (0 ≤ i) = True := eq_true HI.out.1
        have q0 : (i < (len : Int)) = True := eq_true t1
        have KA := Aside0.mk (K.out.alloc (.cells #[.int .i64 z0, .int .i64 z1, .int .i64 z2, .int .i64 z3, .int .i64 z4] 46))
        clear hlt t1 t2 j0 j1 j2 j3 j4 AA
        by_cases y0 : z0 = 0
        · have v0 : (z0 == 0) = true := by rw [y0]; rfl
          clear y0
          obtain ⟨rr, S', ho⟩ : ∃ rr S', capS S = (rr, S') := ⟨_, _, rfl⟩
          have HLE : Aside0 (S.lm ≤ S'.lm ∧ S.ls ≤ S'.ls) := ⟨by have := cap_same ho; omega⟩
          have HO := Aside0.mk ho
          clear ho
          go_wp2_with fail
          (with_reducible refine (PCapture _ _ p mo mc so sc n d tu S vn va rr S' KA.out HO.out).mono ?_); rintro e w5 ⟨rfl, vn', h5, _⟩
          have K5 := Aside0.mk h5
          clear h5 K KA
          have hle1 : decide (S'.lm < S.lm) = false := decide_eq_false (by have := HLE.out.1; omega)
          have hle2 : decide (S'.ls < S.ls) = false := decide_eq_false (by have := HLE.out.2; omega)
          go_wp2_with fail
          (with_reducible refine (PMaster _ _ p mo mc so sc n d tu S' _ _ K5.out).mono ?_); rintro e w6 ⟨rfl, rfl⟩
          go_wp2_with fail
          (with_reducible refine (PSlave _ _ p mo mc so sc n d tu S' _ _ K5.out).mono ?_); rintro e w6 ⟨rfl, rfl⟩
          go_wp2_with fail
          (with_reducible refine (PMaster _ _ p mo mc so sc n d tu S' _ _ K5.out).mono ?_); rintro e w6 ⟨rfl, rfl⟩
          go_wp2_with fail
          (with_reducible refine (PSlave _ _ p mo mc so sc n d tu S' _ _ K5.out).mono ?_); rintro e w6 ⟨rfl, rfl⟩
          go_wp2
          go_roundg k1
          case measure => omega
          case rel => exact ⟨i + 1, S', _, _, rfl, rfl, by rw [hi1], HI', K5⟩

        have v0 : (z0 == 0) = false := by rw [beq_eq_false_iff_ne]; exact y0
        clear y0
        by_cases y1 : z0 = 1
        · have v1 : (z0 == 1) = true := by rw [y1]; rfl
          clear y1
          obtain ⟨rr, S', ho⟩ : ∃ rr S', appS tu S z4 = (rr, S') := ⟨_, _, rfl⟩
          have HLE : Aside0 (S.lm ≤ S'.lm ∧ S.ls ≤ S'.ls) := ⟨by have := app_same ho; omega⟩
          have HO := Aside0.mk ho
          clear ho
          go_wp2_with fail
          (with_reducible refine (PApply _ _ p mo mc so sc n d tu S vn va z4 rr S' KA.out HB.out.2.2.1 HB.out.2.2.2.1 HO.out).mono ?_); rintro e w5 ⟨rfl, vn', va', h5, _⟩
          have K5 := Aside0.mk h5
          clear h5 K KA
          have hle1 : decide (S'.lm < S.lm) = false := decide_eq_false (by have := HLE.out.1; omega)
          have hle2 : decide (S'.ls < S.ls) = false := decide_eq_false (by have := HLE.out.2; omega)
          go_wp2_with fail
          (with_reducible refine (PMaster _ _ p mo mc so sc n d tu S' _ _ K5.out).mono ?_); rintro e w6 ⟨rfl, rfl⟩
          go_wp2_with fail
          (with_reducible refine (PSlave _ _ p mo mc so sc n d tu S' _ _ K5.out).mono ?_); rintro e w6 ⟨rfl, rfl⟩
          go_wp2_with fail
          (with_reducible refine (PMaster _ _ p mo mc so sc n d tu S' _ _ K5.out).mono ?_); rintro e w6 ⟨rfl, rfl⟩
          go_wp2_with fail
          (with_reducible refine (PSlave _ _ p mo mc so sc n d tu S' _ _ K5.out).mono ?_); rintro e w6 ⟨rfl, rfl⟩
          go_wp2
          go_roundg k1
          case measure => omega
          case rel => exact ⟨i + 1, S', _, _, rfl, rfl, by rw [hi1], HI', K5⟩

        have v1 : (z0 == 1) = false := by rw [beq_eq_false_iff_ne]; exact y1
        clear y1
        obtain ⟨rr, S', ho⟩ : ∃ rr S', stepS n d S z2 z3 = (rr, S') := ⟨_, _, rfl⟩
        have HLE := Aside0.mk (step_rises n d S z2 z3 rr S' ho)
        have HO := Aside0.mk ho
        clear ho
        go_wp2_with fail
        (with_reducible refine (PStep _ _ p mo mc so sc n d tu S vn va z2 z3 rr S' KA.out HB.out.1 HB.out.2.1 HO.out).mono ?_); rintro e w5 ⟨rfl, h5, _⟩
        have K5 := Aside0.mk h5
        clear h5 K KA
        have hle1 : decide (S'.lm < S.lm) = false := decide_eq_false (by have := HLE.out.1; omega)
        have hle2 : decide (S'.ls < S.ls) = false := decide_eq_false (by have := HLE.out.2; omega)
        go_wp2_with fail
        (with_reducible refine (PMaster _ _ p mo mc so sc n d tu S' _ _ K5.out).mono ?_); rintro e w6 ⟨rfl, rfl⟩
        go_wp2_with fail
        (with_reducible refine (PSlave _ _ p mo mc so sc n d tu S' _ _ K5.out).mono ?_); rintro e w6 ⟨rfl, rfl⟩
        go_wp2_with fail
        (with_reducible refine (PMaster _ _ p mo mc so sc n d tu S' _ _ K5.out).mono ?_); rintro e w6 ⟨rfl, rfl⟩
        go_wp2_with fail
        (with_reducible refine (PSlave _ _ p mo mc so sc n d tu S' _ _ K5.out).mono ?_); rintro e w6 ⟨rfl, rfl⟩
        go_wp2
        go_roundg k1
        case measure => omega
        case rel => exact ⟨i + 1, S', _, _, rfl, rfl, by rw [hi1], HI', K5⟩

      · have u2 : decide (i < 80) = false := decide_eq_false t2
        clear t1 t2
        go_wp2_with fail
        (with_reducible refine (live_walk _).mono ?_); rintro e w5 ⟨rfl, hb⟩
        go_wp2_with fail
        go_ret
        exact ⟨rfl, below_step (below_step BS.out K.out.B) hb⟩
    · have u1 : decide (i < (len : Int)) = false := decide_eq_false t1
      clear t1
      go_wp2_with fail
      (with_reducible refine (live_walk _).mono ?_); rintro e w5 ⟨rfl, hb⟩
      go_wp2_with fail
      go_ret
      exact ⟨rfl, below_step (below_step BS.out K.out.B) hb⟩
theorem AccordRises_walk (a0_0 a0_1 a0_2 a1 : Int) (A : Option Addr) (len cap : Nat) (w : World) (w0_0 : (Lit.int .i64 a0_0).wf = true) (w0_1 : (Lit.int .i64 a0_1).wf = true) (w0_2 : (Lit.int .i64 a0_2).wf = true) (w1 : (Lit.int .i64 a1).wf = true)
    (h : (A = none ∧ len = 0 ∧ cap = 0) ∨ ∃ x, A = some x ∧ len ≤ cap ∧ cap ≤ maxLen ∧ ∀ i, i < len → ∃ (z0 : Int) (z1 : Int) (z2 : Int) (z3 : Int) (z4 : Int), w.cell? (x.add (i * 5 + 0)) = some (.int .i64 z0) ∧ w.cell? (x.add (i * 5 + 1)) = some (.int .i64 z1) ∧ w.cell? (x.add (i * 5 + 2)) = some (.int .i64 z2) ∧ w.cell? (x.add (i * 5 + 3)) = some (.int .i64 z3) ∧ w.cell? (x.add (i * 5 + 4)) = some (.int .i64 z4) ∧ (Lit.int .i64 z0).wf = true ∧ (Lit.int .i64 z1).wf = true ∧ (Lit.int .i64 z2).wf = true ∧ (Lit.int .i64 z3).wf = true ∧ (Lit.int .i64 z4).wf = true) :
    Calls Try.prog 6 #[.agg #[.int .i64 a0_0, .int .i64 a0_1, .int .i64 a0_2], .int .i64 a1, .slice A len cap] w fun e w' => e = .returned (.bool true) ∧ Below w.heap.size w w' := by
  have m := mask50 a1
  exact Rises_core a0_0 a0_1 a0_2 _ _ _ a1 _ A len cap w (acts5_row h) rfl rfl rfl rfl (by rw [m]; omega) (by rw [m]; omega)
end Go.Proofs.Ytjnllejfgljkdaa.P
