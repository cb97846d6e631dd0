/- bellbuoylaw11.Frame by the program: a frame that can be, from any one. Conditions: those that each lemma names. -/
import Derived.Test.YtjhnkncmdeineaaDoorTopFrame
import Derived.Test.YtjhnkncmdeineaaDoorBodConcat
namespace Go.Proofs.YtjhnkncmdeineaaDoor.P
open Go.RowKit Go.Proofs.YtjhnkncmdeineaaDoorW.PrintWords Go.Proofs.YtjhnkncmdeineaaDoorW.PrintLast Go.Proofs.YtjhnkncmdeineaaDoorW.PrintMore Go.Shelf
set_option linter.unusedVariables false
set_option linter.unusedSimpArgs false
theorem and_mask (m : Nat) (hm : m ≤ 32) (M : Int) (hM : (BitVec.ofInt 32 M).toNat = 2 ^ m - 1) (n : Int) (n0 : 0 ≤ n) (n1 : n < 4294967296) : 0 ≤ Go.bits .and .u32 n M ∧ Go.bits .and .u32 n M < 2 ^ m := by
  have key : (BitVec.ofInt 32 n &&& BitVec.ofInt 32 M).toNat = (n % ((2 ^ 32 : Nat) : Int)).toNat % 2 ^ m := by
    rw [BitVec.toNat_and, BitVec.toNat_ofInt, hM, Nat.and_two_pow_sub_one_eq_mod]
  have h : Go.bits .and .u32 n M = IntKind.u32.wrap ((BitVec.ofInt 32 n &&& BitVec.ofInt 32 M).toNat : Nat) := rfl
  rw [h, key, IntKind.wrap_u32]
  have h1 : (n % ((2 ^ 32 : Nat) : Int)).toNat % 2 ^ m < 2 ^ m := Nat.mod_lt _ (Nat.two_pow_pos m)
  have h2 : (2 : Nat) ^ m ≤ 2 ^ 32 := Nat.pow_le_pow_right (by decide) hm
  have h3 : ((2 : Int) ^ m) = ((2 ^ m : Nat) : Int) := by simp
  rw [h3]
  generalize (n % ((2 ^ 32 : Nat) : Int)).toNat % 2 ^ m = q at *
  generalize (2 : Nat) ^ m = p at *
  omega
/-- A frame's cells. -/
abbrev frc (e : Bool) (n : Int) (r : Bool) (len : Int) (y : Nat → Int) : Array Value := #[.bool e, .int .u32 n, .bool r, .int .i64 len, .int .u8 (y 0), .int .u8 (y 1), .int .u8 (y 2), .int .u8 (y 3), .int .u8 (y 4), .int .u8 (y 5), .int .u8 (y 6), .int .u8 (y 7)]
/-- A frame that can be. -/
structure Good (e : Bool) (n : Int) (r : Bool) (len : Int) (y : Nat → Int) : Prop where
  n0 : 0 ≤ n
  n1 : e = true → n < 536870912
  n2 : e = false → n < 2048
  l0 : 0 ≤ len ∧ len ≤ 8
  z : ∀ j : Nat, j < 8 → (r = true ∨ len ≤ (j : Int)) → y j = 0
  yb : ∀ j : Nat, j < 8 → 0 ≤ y j ∧ y j < 256
/-- The same, its first k bytes looked at. -/
structure Gk (e : Bool) (n : Int) (r : Bool) (len : Int) (y : Nat → Int) (k : Nat) : Prop where
  n0 : 0 ≤ n
  n1 : e = true → n < 536870912
  n2 : e = false → n < 2048
  l0 : 0 ≤ len ∧ len ≤ 8
  z : ∀ j : Nat, j < k → (r = true ∨ len ≤ (j : Int)) → y j = 0
  yb : ∀ j : Nat, j < 8 → 0 ≤ y j ∧ y j < 256
theorem Gk.put {e : Bool} {n : Int} {r : Bool} {len : Int} {y : Nat → Int} {k : Nat} (h : Gk e n r len y k) : Gk e n r len (fun j => if j = k then 0 else y j) (k + 1) :=
  ⟨h.n0, h.n1, h.n2, h.l0, fun j hj hr => by
    by_cases e1 : j = k
    · simp [e1]
    · simp only [if_neg e1]; exact h.z j (by omega) hr, fun j hj => by
    by_cases e1 : j = k
    · simp [e1]
    · simp only [if_neg e1]; exact h.yb j hj⟩
theorem Gk.skip {e : Bool} {n : Int} {r : Bool} {len : Int} {y : Nat → Int} {k : Nat} (h : Gk e n r len y k) (h1 : r = false) (h2 : (k : Int) < len) : Gk e n r len y (k + 1) :=
  ⟨h.n0, h.n1, h.n2, h.l0, fun j hj hr => by
    rcases hr with hr | hr
    · rw [h1] at hr; cases hr
    · by_cases e1 : j = k
      · omega
      · exact h.z j (by omega) (.inr hr), h.yb⟩
theorem blk_new1 {w : World} {t u : Nat} (o z : Array Value) : ((w.alloc (.cells o t)).alloc (.cells z u)).heap[w.heap.size + 1]? = some (.cells z u (0, 0)) := by
  have h := blk_new (w.alloc (.cells o t)) (.cells z u)
  have e : (w.alloc (.cells o t)).heap.size = w.heap.size + 1 := by simp
  rw [e] at h
  exact h
theorem frc_get (e : Bool) (n : Int) (r : Bool) (len : Int) (x : Nat → Int) : ∀ k : Nat, k < 8 → (frc e n r len x)[4 + k]? = some (.int .u8 (x k))
  | 0, _ => rfl
  | 1, _ => rfl
  | 2, _ => rfl
  | 3, _ => rfl
  | 4, _ => rfl
  | 5, _ => rfl
  | 6, _ => rfl
  | 7, _ => rfl
  | k + 8, h => absurd h (by omega)
theorem frc_set (e : Bool) (n : Int) (r : Bool) (len : Int) (x : Nat → Int) : ∀ k : Nat, k < 8 → (frc e n r len x).setIfInBounds (4 + k) (.int .u8 0) = frc e n r len (fun j => if j = k then 0 else x j)
  | 0, _ => rfl
  | 1, _ => rfl
  | 2, _ => rfl
  | 3, _ => rfl
  | 4, _ => rfl
  | 5, _ => rfl
  | 6, _ => rfl
  | 7, _ => rfl
  | k + 8, h => absurd h (by omega)
set_option maxRecDepth 100000 in
set_option maxHeartbeats 8000000 in
theorem Frame_calls (e : Bool) (n : Int) (r : Bool) (len : Int) (y : Nat → Int) (n0 : 0 ≤ n) (n1 : n < 4294967296) (yb : ∀ j, j < 8 → 0 ≤ y j ∧ y j < 256) (w : World) :
    Calls Tryd.prog 4 #[.agg (frc e n r len y)] w fun e' W' => (∃ n' len' x, e' = .returned (.agg (frc e n' r len' x)) ∧ Good e n' r len' x) ∧ Below w.heap.size w W' := by
  have hu24 := Tryd.underlying24
  have hu25 := Tryd.underlying25
  have hu27 := Tryd.underlying27
  have HN := Aside0.mk (And.intro n0 n1)
  have YB := Aside0.mk yb
  have KF := Aside0.mk (blk_alloc (blk_new w (.cells (frc e n r len y) 27)) (.cells #[.bool false, .int .u32 0, .bool false, .int .i64 0, .int .u8 0, .int .u8 0, .int .u8 0, .int .u8 0, .int .u8 0, .int .u8 0, .int .u8 0, .int .u8 0] 27))
  have KX := Aside0.mk (blk_new (w.alloc (.cells (frc e n r len y) 27)) (.cells #[.bool false, .int .u32 0, .bool false, .int .i64 0, .int .u8 0, .int .u8 0, .int .u8 0, .int .u8 0, .int .u8 0, .int .u8 0, .int .u8 0, .int .u8 0] 27))
  have B := Aside0.mk (below_alloc (below_alloc (Below.refl w.heap.size w) (.cells (frc e n r len y) 27)) (.cells #[.bool false, .int .u32 0, .bool false, .int .i64 0, .int .u8 0, .int .u8 0, .int .u8 0, .int .u8 0, .int .u8 0, .int .u8 0, .int .u8 0, .int .u8 0] 27))
  have hsz : (w.alloc (.cells (frc e n r len y) 27)).heap.size = w.heap.size + 1 := by simp
  rw [hsz] at KX
  clear hsz n0 n1 yb
  simp only [frc] at KF KX B ⊢
  obtain ⟨c0, c1, c2, c3, c4, c5, c6, c7, c8, c9, c10, c11⟩ := cells12 KF.out
  obtain ⟨f0, f1, f2, f3, f4, f5, f6, f7, f8, f9, f10, f11⟩ := frozen12 KF.out
  go_enter Tryd.func4, Tryd.ntmps4
  have M2 : Aside0 (0 ≤ Go.bits .and .u32 n 2047 ∧ Go.bits .and .u32 n 2047 < 2048) := ⟨and_mask 11 (by decide) 2047 (by decide) n HN.out.1 HN.out.2⟩
  have M29 : Aside0 (0 ≤ Go.bits .and .u32 n 536870911 ∧ Go.bits .and .u32 n 536870911 < 536870912) := ⟨and_mask 29 (by decide) 536870911 (by decide) n HN.out.1 HN.out.2⟩
  go_wp2_with fail
  all_goals clear f0 f1 f2 f3 f4 f5 f6 f7 f8 f9 f10 f11 c0 c1 c2 c3 c4 c5 c6 c7 c8 c9 c10 c11 KF KX B
  all_goals (
    rename_i he hl K hK
    have HE := Aside0.mk he
    have HLN := Aside0.mk hl
    clear he hl
    go_loopg [3] 9 (fun kq v3 w' => ∃ (k : Nat) (N L : Int) (x : Nat → Int), v3 = .int .i64 (k : Int) ∧ Aside0 (k ≤ 8 ∧ k + kq = 9) ∧ Aside0 (w'.heap[w.heap.size]? = some (.cells (frc e N r L x) 27 (0, 0))) ∧ Aside0 (w'.heap[w.heap.size + 1]? = some (.cells #[.bool false, .int .u32 0, .bool false, .int .i64 0, .int .u8 0, .int .u8 0, .int .u8 0, .int .u8 0, .int .u8 0, .int .u8 0, .int .u8 0, .int .u8 0] 27 (0, 0))) ∧ Aside0 (Below w.heap.size w w') ∧ Aside0 (Gk e N r L x k))
    case atStart =>
      rw [HE.out]
      refine ⟨0, _, _, y, rfl, ⟨by omega⟩, ⟨blk_alloc (blk_new w _) _⟩, ⟨blk_new1 _ _⟩, ⟨below_alloc (below_alloc (Below.refl _ _) _) _⟩, ⟨?_⟩⟩
      exact ⟨by first | (with_reducible exact M2.out.1) | (with_reducible exact M29.out.1), fun h => by first | (cases h; done) | (with_reducible exact M29.out.2), fun h => by first | (cases h; done) | (with_reducible exact M2.out.2), by have := HLN.out; omega, fun j hj => absurd hj (by omega), YB.out⟩
    case round =>
      obtain ⟨k, N, L, x, rfl, HK, KF, KX, B, GK⟩ := hrel
      obtain ⟨c0, c1, c2, c3, c4, c5, c6, c7, c8, c9, c10, c11⟩ := cells12 KF.out
      by_cases hk : k < 8
      · have u1 : decide ((k : Int) < 8) = true := decide_eq_true (by omega)
        have u1b : decide (k < 8) = true := decide_eq_true hk
        obtain ⟨k1, rfl⟩ : ∃ k1, gk = k1 + 1 := ⟨gk - 1, by have := HK.out; omega⟩
        have ki : wrap64 ((k : Int) + 1) = ((k + 1 : Nat) : Int) := by rw [i64w _ (by omega) (by omega)]; rfl
        have LT := Aside0.mk hk
        by_cases hc : r = true ∨ L ≤ (k : Int)
        · have q0 : (0 : Int) ≤ (k : Int) := by omega
          have q1 : (k : Int) < 8 := by omega
          have ck : wr.cell? ⟨w.heap.size, 4 + k, none⟩ = some (.int .u8 (x k)) := (blk_cell KF.out (4 + k)).trans (frc_get e N r L x k hk)
          have fk := blk_frozen KF.out (4 + k)
          have nF := Aside0.mk (blk_put KF.out (4 + k) (.int .u8 0) (frc_set e N r L x k hk))
          have nX := Aside0.mk (blk_far KX.out (show w.heap.size + 1 ≠ w.heap.size by omega) (p := ⟨w.heap.size, 4 + k, none⟩) (.int .u8 0))
          have nB := Aside0.mk (B.out.setCell (p := ⟨w.heap.size, 4 + k, none⟩) (Nat.le_refl _) (.int .u8 0))
          have nG := Aside0.mk GK.out.put
          clear KF KX B GK
          by_cases hr : r = true
          · clear hc
            go_wp2
            go_roundg k1
            case rel => exact ⟨k + 1, N, L, _, by first | rfl | rw [ki], ⟨by have := HK.out; have := LT.out; omega⟩, nF, nX, nB, nG⟩
            case measure => omega
          · have hL : L ≤ (k : Int) := hc.resolve_left hr
            have hr : r = false := Bool.eq_false_iff.2 hr
            have v1 : decide ((k : Int) ≥ L) = true := decide_eq_true hL
            have v2 : decide (L ≤ (k : Int)) = true := decide_eq_true hL
            clear hc hL
            go_wp2
            go_roundg k1
            case rel => exact ⟨k + 1, N, L, _, by first | rfl | rw [ki], ⟨by have := HK.out; have := LT.out; omega⟩, nF, nX, nB, nG⟩
            case measure => omega
        · have hr : r = false := Bool.eq_false_iff.2 (fun h => hc (.inl h))
          have hL : ¬ L ≤ (k : Int) := fun h => hc (.inr h)
          have v1 : decide ((k : Int) ≥ L) = false := decide_eq_false hL
          have v2 : decide (L ≤ (k : Int)) = false := decide_eq_false hL
          have nG := Aside0.mk (GK.out.skip hr (by omega))
          clear hc hL GK
          go_wp2
          go_roundg k1
          case rel => exact ⟨k + 1, N, L, x, by first | rfl | rw [ki], ⟨by have := HK.out; have := LT.out; omega⟩, KF, KX, B, nG⟩
          case measure => omega
      · have u1 : decide ((k : Int) < 8) = false := decide_eq_false (by omega)
        have u1b : decide (k < 8) = false := decide_eq_false hk
        have hk8 : k = 8 := by have := HK.out; omega
        subst hk8
        obtain ⟨f0, f1, f2, f3, f4, f5, f6, f7, f8, f9, f10, f11⟩ := frozen12 KX.out
        obtain ⟨z0, z1, z2, z3, z4, z5, z6, z7, z8, z9, z10, z11⟩ := cells12 KX.out
        go_wp2
        have nX := Aside0.mk (set12_blk (.bool e) (.int .u32 N) (.bool r) (.int .i64 L) (.int .u8 (x 0)) (.int .u8 (x 1)) (.int .u8 (x 2)) (.int .u8 (x 3)) (.int .u8 (x 4)) (.int .u8 (x 5)) (.int .u8 (x 6)) (.int .u8 (x 7)) KX.out)
        refine bodyPost_ret (results_single rfl (.cell (w.heap.size + 1) 27 #[.bool e, .int .u32 N, .bool r, .int .i64 L, .int .u8 (x 0), .int .u8 (x 1), .int .u8 (x 2), .int .u8 (x 3), .int .u8 (x 4), .int .u8 (x 5), .int .u8 (x 6), .int .u8 (x 7)] (0, 0) _ rfl nX.out Tryd.underlying27 rfl (by kernel_rfl) .nil)) rfl ?_
        exact ⟨⟨N, L, x, rfl, GK.out.n0, GK.out.n1, GK.out.n2, GK.out.l0, GK.out.z, GK.out.yb⟩, set12_below _ _ _ _ _ _ _ _ _ _ _ _ B.out (by omega)⟩)
end Go.Proofs.YtjhnkncmdeineaaDoor.P
