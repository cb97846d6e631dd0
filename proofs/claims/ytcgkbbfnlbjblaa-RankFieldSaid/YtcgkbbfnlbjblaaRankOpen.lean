/- A field of so many nodes is opened by the program. Conditions: the numbers are of their kinds. -/
import Derived.Test.YtcgkbbfnlbjblaaRankTurn
namespace Go.Proofs.Ytcgkbbfnlbjblaa.P
open Go.RowKit Go.Proofs.YtcgkbbfnlbjblaaW.PrintWords Go.Proofs.YtcgkbbfnlbjblaaW.PrintLast Go.Proofs.YtcgkbbfnlbjblaaW.PrintMore
set_option linter.unusedVariables false
set_option linter.unusedSimpArgs false
theorem info36 : (Try.prog.info? 36).map (fun i => (i.zero, i.size, i.bytes)) = some (some (.pointer none), 1, 8) := by kernel_rfl
def openL (k j : Nat) : Option Nd := if j < k then some ⟨false, 0, 0⟩ else none
theorem Open_no (b s p n : Int) (w : World) (h : (rightB b s p && rankB (wrap64 (n - 1))) = false) :
    Calls Try.prog 23 #[.agg #[.int .i64 b, .int .i64 s, .int .i64 p], .int .i64 n] w fun e w' => e = .returned (.tuple #[.pointer none, .int .i64 1]) ∧ Below w.heap.size w w' := by
  have hu23 := Try.underlying23
  have H1 := Aside0.mk (Right_eq b s p)
  have H2 := Aside0.mk (ranked_eq (wrap64 (n - 1)))
  have BK0 : Aside0 ((w.alloc (.cells #[.int .i64 b, .int .i64 s, .int .i64 p] 23)).heap[w.heap.size]? = some (.cells #[.int .i64 b, .int .i64 s, .int .i64 p] 23 (0, 0))) := ⟨blk_new _ _⟩
  have B0 : Aside0 (Below w.heap.size w (w.alloc (.cells #[.int .i64 b, .int .i64 s, .int .i64 p] 23))) := ⟨below_alloc (Below.refl _ _) _⟩
  have c0 := (blk_cell BK0.out 0).trans rfl
  have c1 := (blk_cell BK0.out 1).trans rfl
  have c2 := (blk_cell BK0.out 2).trans rfl
  cases h1 : rightB b s p
  · rw [h1] at H1
    clear h h1
    go_enter Try.func23, Try.ntmps23
    go_wp2_with fail
    (with_reducible refine (rank_Right.calls b s p false _ H1.out).mono ?_); rintro e w1 ⟨rfl, hd⟩
    have B1 : Aside0 (Below w.heap.size w w1) := ⟨below_step B0.out hd⟩
    clear hd
    go_wp2_with fail
    go_ret2
    exact ⟨rfl, B1.out⟩
  · have h2 : rankB (wrap64 (n - 1)) = false := by simpa [h1] using h
    rw [h1] at H1
    rw [h2] at H2
    clear h h1 h2
    go_enter Try.func23, Try.ntmps23
    go_wp2_with fail
    (with_reducible refine (rank_Right.calls b s p true _ H1.out).mono ?_); rintro e w1 ⟨rfl, hd⟩
    have B1 : Aside0 (Below w.heap.size w w1) := ⟨below_step B0.out hd⟩
    clear hd
    go_wp2_with fail
    (with_reducible refine (rank_ranked.calls (wrap64 (n - 1)) false _ H2.out).mono ?_); rintro e w2 ⟨rfl, hd⟩
    have B2 : Aside0 (Below w.heap.size w w2) := ⟨below_step B1.out hd.below⟩
    clear hd
    go_wp2_with fail
    go_ret2
    exact ⟨rfl, B2.out⟩
theorem openL_next {n k : Nat} (hk : k < n) : turnL n (openL k) (k : Int) true = openL (k + 1) := by
  have e : openL k k = none := if_neg (Nat.lt_irrefl _)
  unfold turnL
  rw [Int.toNat_natCast, e, if_pos ⟨by omega, by omega, by decide⟩]
  funext j
  unfold upd openL
  by_cases ej : j = k
  · rw [if_pos ej, if_pos rfl, if_pos (by omega)]
  · rw [if_neg ej]
    by_cases h : j < k
    · rw [if_pos h, if_pos (by omega)]
    · rw [if_neg h, if_neg (by omega)]
theorem Fld.opened (b s p : Int) (n : Nat) (w2 : World) (base : Nat) (hb : base ≤ w2.heap.size) :
    Fld ((w2.alloc (.cells (madeCells #[.pointer none] n) 36)).alloc (.cells #[.int .i64 b, .int .i64 s, .int .i64 p, .slice (some ⟨w2.heap.size, 0, none⟩) n n, .slice none 0 0] 81)) base (w2.heap.size + 1) w2.heap.size b s p n (fun _ => none) (openL 0) [] := by
  have hf := blk_new (w2.alloc (.cells (madeCells #[.pointer none] n) 36)) (.cells #[.int .i64 b, .int .i64 s, .int .i64 p, .slice (some ⟨w2.heap.size, 0, none⟩) n n, .slice none 0 0] 81)
  rw [World.size_alloc] at hf
  have hg := blk_below (blk_new w2 (.cells (madeCells #[.pointer none] n) 36)) (below_alloc (Below.refl _ _) (.cells #[.int .i64 b, .int .i64 s, .int .i64 p, .slice (some ⟨w2.heap.size, 0, none⟩) n n, .slice none 0 0] 81))
  refine ⟨⟨_, hf, Kd.R_nil _ _ _ _ _⟩, ⟨_, hg, fun j hj => ?_⟩, ⟨fun j hj => ?_, fun i j k _ _ e => ?_⟩, by omega, hb, fun j k _ e => ?_⟩
  · simp [madeCells, hj, ptr, Nat.mod_one]
  · show NO _ b s p j none (openL 0 j)
    rw [show openL 0 j = none from if_neg (Nat.not_lt_zero _)]
    trivial
  · cases e
  · cases e
set_option maxHeartbeats 4000000 in
set_option maxRecDepth 100000 in
theorem Open_yes (b s p : Int) (n : Nat) (w : World) (h1 : rightB b s p = true) (n0 : 1 ≤ n) (n1 : n ≤ 32) :
    Calls Try.prog 23 #[.agg #[.int .i64 b, .int .i64 s, .int .i64 p], .int .i64 (n : Int)] w fun e w' => ∃ f g H, e = .returned (.tuple #[.pointer (some ⟨f, 0, none⟩), .int .i64 0]) ∧ Fld w' w.heap.size f g b s p n H (openL n) [] ∧ Below w.heap.size w w' := by
  have hu23 := Try.underlying23
  have hu81 := Try.underlying81
  have H1 := Aside0.mk (Right_eq b s p)
  have hnn : wrap64 ((n : Int) - 1) = (n : Int) - 1 := i64w _ (by omega) (by omega)
  have h2 : rankB ((n : Int) - 1) = true := decide_eq_true (by omega)
  have H2 := Aside0.mk (ranked_eq ((n : Int) - 1))
  have hmk := print_make_of (P := Try.prog) 79 36 (.pointer none) 8 Try.underlying79 info36 rfl (by decide) n (by omega)
  have HR := Aside0.mk h1
  have N1 := Aside0.mk n1
  rw [h1] at H1
  rw [h2] at H2
  have BK0 : Aside0 ((w.alloc (.cells #[.int .i64 b, .int .i64 s, .int .i64 p] 23)).heap[w.heap.size]? = some (.cells #[.int .i64 b, .int .i64 s, .int .i64 p] 23 (0, 0))) := ⟨blk_new _ _⟩
  have B0 : Aside0 (Below w.heap.size w (w.alloc (.cells #[.int .i64 b, .int .i64 s, .int .i64 p] 23))) := ⟨below_alloc (Below.refl _ _) _⟩
  have c0 := (blk_cell BK0.out 0).trans rfl
  have c1 := (blk_cell BK0.out 1).trans rfl
  have c2 := (blk_cell BK0.out 2).trans rfl
  clear h1 h2 n0 n1
  go_enter Try.func23, Try.ntmps23
  go_wp2_with fail
  (with_reducible refine (rank_Right.calls b s p true _ H1.out).mono ?_); rintro e w1 ⟨rfl, hd⟩
  have BK1 : Aside0 (w1.heap[w.heap.size]? = some (.cells #[.int .i64 b, .int .i64 s, .int .i64 p] 23 (0, 0))) := ⟨blk_below BK0.out hd⟩
  have B1 : Aside0 (Below w.heap.size w w1) := ⟨below_step B0.out hd⟩
  clear hd c0 c1 c2 BK0 B0
  go_wp2_with fail
  (with_reducible refine (rank_ranked.calls ((n : Int) - 1) true _ H2.out).mono ?_); rintro e w2 ⟨rfl, hd⟩
  have BK2 : Aside0 (w2.heap[w.heap.size]? = some (.cells #[.int .i64 b, .int .i64 s, .int .i64 p] 23 (0, 0))) := ⟨blk_below BK1.out hd.below⟩
  have B2 : Aside0 (Below w.heap.size w w2) := ⟨below_step B1.out hd.below⟩
  clear hd BK1 B1
  have c0 := (blk_cell BK2.out 0).trans rfl
  have c1 := (blk_cell BK2.out 1).trans rfl
  have c2 := (blk_cell BK2.out 2).trans rfl
  go_wp2_with fail
  go_region_held3 (fun w' => w'.cell? ⟨w.heap.size, 0, none⟩ = some (.int .i64 b) ∧ w'.cell? ⟨w.heap.size, 1, none⟩ = some (.int .i64 s) ∧ w'.cell? ⟨w.heap.size, 2, none⟩ = some (.int .i64 p)) (go_keep) (fail)
  have FA := Fld.opened b s p n w2 w.heap.size B2.out.size
  obtain ⟨W3, hW3⟩ : ∃ W3, ((w2.alloc (.cells (madeCells #[.pointer none] n) 36)).alloc (.cells #[.int .i64 b, .int .i64 s, .int .i64 p, .slice (some ⟨w2.heap.size, 0, none⟩) n n, .slice none 0 0] 81)).drew = W3 := ⟨_, rfl⟩
  have B3 : Aside0 (Below w.heap.size w W3) := ⟨by rw [← hW3]; exact below_drew1 (below_alloc (below_alloc B2.out _) _)⟩
  have F3 : Aside0 (Fld W3 w.heap.size (w2.heap.size + 1) w2.heap.size b s p n (fun _ => none) (openL 0) []) := ⟨by rw [← hW3]; exact FA.below (below_drew1 (Below.refl _ _))⟩
  rw [hW3]
  clear FA hW3 hmk c0 c1 c2 BK2 B2
  obtain ⟨v5, i1, i2⟩ := F3.out.fv
  have d3 := (blk_cell i1 3).trans (show _ = some (Value.slice (some ⟨w2.heap.size, 0, none⟩) n n) from rfl)
  clear i1 i2
  go_wp2_with fail
  go_loopg [27] n (fun kq v27 w' => ∃ (k : Nat) (H : Nat → Option Nat), v27 = .int .i64 (k : Int) ∧ Aside0 (k + kq = n) ∧ Aside0 (Fld w' w.heap.size (w2.heap.size + 1) w2.heap.size b s p n H (openL k) []) ∧ Aside0 (Below w.heap.size w w'))
  case atStart => exact ⟨0, _, rfl, ⟨by omega⟩, F3, B3⟩
  case round =>
    obtain ⟨k, H, rfl, HJ, HF, HB⟩ := hrel
    cases gk with
    | zero =>
      obtain rfl : k = n := by have := HJ.out; omega
      go_wp2_with fail
      go_ret2
      exact ⟨_, _, H, rfl, HF.out, HB.out⟩
    | succ k1 =>
      have hk : k < n := by have := HJ.out; omega
      have HK := Aside0.mk hk
      have u1 : decide ((k : Int) < (n : Int)) = true := decide_eq_true (by omega)
      have u4 : decide (k < n) = true := decide_eq_true hk
      clear hk
      go_wp2_with fail
      (with_reducible refine (Restart_calls w.heap.size (w2.heap.size + 1) w2.heap.size n b s p k H (openL k) [] _ HF.out HB.out.size N1.out HR.out).mono ?_); rintro e w4 ⟨H', rfl, h3, h4⟩
      have HF4 : Aside0 (Fld w4 w.heap.size (w2.heap.size + 1) w2.heap.size b s p n H' (openL (k + 1)) []) := ⟨by rw [openL_next HK.out] at h3; exact h3⟩
      have HB4 : Aside0 (Below w.heap.size w w4) := ⟨HB.out.trans (h4.below HB.out.size HF.out.base_le)⟩
      clear h3 h4 HF HB
      go_wp2_with fail
      go_roundg k1
      case measure => omega
      case rel =>
        refine ⟨k + 1, H', ?_, ⟨by have := HJ.out; omega⟩, HF4, HB4⟩
        rw [i64w _ (by omega) (by have := HK.out; have := N1.out; omega)]
        rfl
end Go.Proofs.Ytcgkbbfnlbjblaa.P
