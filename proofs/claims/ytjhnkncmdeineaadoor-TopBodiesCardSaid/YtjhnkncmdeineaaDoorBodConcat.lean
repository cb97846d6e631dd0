/- slices.Grow (of no row) and slices.Concat (of four rows of bytes) by the library's text. Conditions: those that each lemma names. -/
import Derived.Test.YtjhnkncmdeineaaDoorBodSeal
namespace Go.Proofs.YtjhnkncmdeineaaDoor.P
open Go.RowKit Go.Proofs.YtjhnkncmdeineaaDoorW.PrintWords Go.Proofs.YtjhnkncmdeineaaDoorW.PrintLast Go.Proofs.YtjhnkncmdeineaaDoorW.PrintMore Go.Shelf
set_option linter.unusedVariables false
set_option linter.unusedSimpArgs false
set_option maxRecDepth 100000 in
set_option maxHeartbeats 4000000 in
theorem Grow_calls (n : Int) (n0 : 1 ≤ n) (n1 : n ≤ 1000) (w : World) :
    Calls Tryd.prog 17 #[.slice none 0 0, .int .i64 n] w fun e W' => ∃ v, e = .returned v ∧ Kd.R (Kd.int .u8) 5 W' w.heap.size (fun _ => True) v [] ∧ Below w.heap.size w W' := by
  have u1 : decide (n < 0) = false := decide_eq_false (by omega)
  have u3 : wrap64 n = n := i64w _ (by omega) (by omega)
  have u2 : decide (wrap64 n > 0) = true := decide_eq_true (by omega)
  have u2b : decide (0 < wrap64 n) = true := decide_eq_true (by omega)
  have HN := Aside0.mk (And.intro n0 n1)
  have HR0 : Aside0 (Kd.R (Kd.int .u8) 5 w w.heap.size (fun _ => True) (.slice none 0 0) []) := ⟨Kd.R_nil _ _ _ _ _⟩
  have HZ : Aside0 (∀ W base, (Kd.int .u8).M W base (fun _ => False) (0 : Int) (Value.int .u8 0).cells.toList) := ⟨fun _ _ => rfl⟩
  have HLn : Aside0 ((([] : List Int).length + (wrap64 n).toNat) * 1 ≤ 140737488355328) := ⟨by simp only [List.length_nil]; omega⟩
  have HW := Aside0.mk u3
  clear n0 n1 u3
  go_enter Tryd.func17, Tryd.ntmps17
  go_wp2_with (first | ((with_reducible refine gate_builtin (b := .append) (xs := #[.tmp 20, .tmp 21]) rfl ?_); at_builtin; refine Kd.R_append_zeros (Kd.int .u8) (w0 := w) w.heap.size rfl (.tmp 20) (.tmp 21) 29 3 5 (.int .u8 0) 1 rfl Tryd.underlying29 Tryd.underlying3 info5u rfl (by decide) (by decide) _ [] (0 : Int) (kx := .i64) (wrap64 n) (fun _ => True) rfl rfl (HZ.out _ _) (fun _ _ => trivial) HR0.out (by rw [HW.out]; have := HN.out; omega) (Below.refl _ _) (Nat.le_refl _) HLn.out ?_; intro v2 w2 hR hb hg hat; have HR := Aside0.mk hR; have B := Aside0.mk hb; clear hR hb hg hat HR0 HZ HLn; obtain ⟨g, c1, rfl, hbg, hgl, cells, hcells⟩ := Kd.R_form HR.out (by rw [List.nil_append, List.length_replicate, HW.out]; have := HN.out; omega); clear hcells hbg hgl; have p1 : (0 : Int) ≤ (c1 : Int) := by omega))
  go_ret
  have h := Kd.R_take HR.out (m := 0) (Nat.zero_le _)
  exact ⟨_, rfl, by simpa using h, B.out⟩
def catL (l : Nat → List Int) (k : Nat) : List Int := (List.range k).flatMap l
theorem catL_succ (l : Nat → List Int) (k : Nat) : catL l (k + 1) = catL l k ++ l k := by simp [catL, List.range_succ]
theorem catL_len (l : Nat → List Int) (hl : ∀ k, k < 4 → (l k).length ≤ 100) : ∀ k, k ≤ 4 → (catL l k).length ≤ 100 * k
  | 0, _ => by simp [catL]
  | k + 1, h => by
    rw [catL_succ, List.length_append]
    have := catL_len l hl k (by omega)
    have := hl k (by omega)
    omega
theorem catL_pos (l : Nat → List Int) (h0 : 0 < (l 0).length) : ∀ k, 0 < (catL l (k + 1)).length
  | 0 => by rw [catL_succ, List.length_append]; omega
  | k + 1 => by rw [catL_succ, List.length_append]; have := catL_pos l h0 k; omega
set_option maxRecDepth 100000 in
set_option maxHeartbeats 8000000 in
theorem Concat_calls (G : Nat) (l : Nat → List Int) (A : Nat → Option Addr) (c : Nat → Nat) (w : World) (hG : ∀ k, k < 4 → w.cell? ⟨G, k, none⟩ = some (.slice (A k) (l k).length (c k))) (hlt : G < w.heap.size) (hC : ∀ k, k < 4 → (Kd.int .u8).C w (A k) (l k).length (l k)) (hl : ∀ k, k < 4 → (l k).length ≤ 100) (h0 : 0 < (l 0).length) :
    Calls Tryd.prog 8 #[.slice (some ⟨G, 0, none⟩) 4 4] w fun e W' => ∃ v, e = .returned v ∧ Kd.R (Kd.int .u8) 5 W' w.heap.size (fun _ => True) v (catL l 4) ∧ Below w.heap.size w W' := by
  have HG := Aside0.mk hG
  have HLT := Aside0.mk hlt
  have HC := Aside0.mk hC
  have HL := Aside0.mk hl
  have H0 := Aside0.mk h0
  have CL := Aside0.mk (catL_len l hl)
  clear hG hlt hC hl h0
  go_enter Tryd.func8, Tryd.ntmps8
  go_wp2_with fail
  go_loopg [3, 11] 5 (fun kq v3 v11 w' => ∃ (k : Nat), v11 = .int .i64 (k : Int) ∧ v3 = .int .i64 ((catL l k).length : Int) ∧ Aside0 (k ≤ 4 ∧ k + kq = 5) ∧ w' = w)
  case atStart => exact ⟨0, rfl, rfl, ⟨by omega⟩, rfl⟩
  case round =>
    obtain ⟨k, rfl, rfl, HK, rfl⟩ := hrel
    by_cases hk : k < 4
    · have u1 : decide ((k : Int) < 4) = true := decide_eq_true (by omega)
      have u1b : decide (k < 4) = true := decide_eq_true hk
      obtain ⟨k1, rfl⟩ : ∃ k1, gk = k1 + 1 := ⟨gk - 1, by have := HK.out; omega⟩
      have ki : wrap64 ((k : Int) + 1) = ((k + 1 : Nat) : Int) := by rw [i64w _ (by omega) (by omega)]; rfl
      have q0 : (0 : Int) ≤ (k : Int) := by omega
      have q1 : (k : Int) < 4 := by omega
      have cg := HG.out k hk
      have wq : wrap64 (((catL l k).length : Int) + ((l k).length : Int)) = ((catL l (k + 1)).length : Int) := by
        have h1 := CL.out k (by omega)
        have h2 := HL.out k hk
        rw [i64w _ (by omega) (by omega), catL_succ, List.length_append]
        rfl
      have u3 : decide (((catL l (k + 1)).length : Int) < 0) = false := decide_eq_false (by omega)
      have LT := Aside0.mk hk
      clear hk
      go_wp2
      go_roundg k1
      case rel => exact ⟨k + 1, by first | rfl | rw [ki], by first | rfl | rw [wq], ⟨by have := HK.out; have := LT.out; omega⟩, rfl⟩
      case measure => omega
    · have u1 : decide ((k : Int) < 4) = false := decide_eq_false (by omega)
      have u1b : decide (k < 4) = false := decide_eq_false hk
      have hk4 : k = 4 := by have := HK.out; omega
      subst hk4
      have GC := Aside0.mk (fun w => Grow_calls ((catL l 4).length : Int) (by have h := catL_pos l H0.out 3; have e : (3 : Nat) + 1 = 4 := rfl; rw [e] at h; omega) (by have := CL.out 4 (Nat.le_refl _); omega) w)
      clear hk HK
      go_wp2_with fail
      (with_reducible refine (GC.out _).mono ?_)
      rintro e W1 ⟨v, rfl, hR, hb⟩
      have R0 := Aside0.mk hR
      have B0 := Aside0.mk hb
      clear hR hb GC
      go_wp2_with fail
      obtain ⟨wo, rfl⟩ : ∃ wo : World, wo = wr := ⟨_, rfl⟩
      go_loopg [6, 27] 5 (fun kq v6 v27 w' => ∃ (k : Nat), v27 = .int .i64 (k : Int) ∧ Aside0 (k ≤ 4 ∧ k + kq = 5) ∧ Aside0 (Kd.R (Kd.int .u8) 5 w' wo.heap.size (fun _ => True) v6 (catL l k)) ∧ Aside0 (Below wo.heap.size wo w'))
      case atStart => exact ⟨0, rfl, ⟨by omega⟩, R0, B0⟩
      case round =>
        clear R0 B0
        obtain ⟨k, rfl, HK, HR, B⟩ := hrel
        by_cases hk : k < 4
        · have u1 : decide ((k : Int) < 4) = true := decide_eq_true (by omega)
          have u1b : decide (k < 4) = true := decide_eq_true hk
          obtain ⟨k1, rfl⟩ : ∃ k1, gk = k1 + 1 := ⟨gk - 1, by have := HK.out; omega⟩
          have ki : wrap64 ((k : Int) + 1) = ((k + 1 : Nat) : Int) := by rw [i64w _ (by omega) (by omega)]; rfl
          have q0 : (0 : Int) ≤ (k : Int) := by omega
          have q1 : (k : Int) < 4 := by omega
          have cg := (B.out.cell (p := ⟨G, k, none⟩) HLT.out).trans (HG.out k hk)
          have RY := Aside0.mk (Kd.C_below (HC.out k hk) B.out)
          have LB := Aside0.mk (show (catL l k).length + (l k).length ≤ 1000 by have := CL.out k (by omega); have := HL.out k hk; omega)
          have CS := Aside0.mk (catL_succ l k)
          have LT := Aside0.mk hk
          clear hk
          go_wp2_with (first | ((with_reducible refine gate_builtin (b := .append) (xs := #[.tmp 31, .tmp 32]) rfl ?_); at_builtin; refine Kd.R_append_row (fun x => Value.int .u8 x) (0 : Int) (h1 := fun _ => rfl) (w0 := wo) wo.heap.size rfl (.tmp 31) (.tmp 32) 29 5 (.int .u8 0) 1 rfl Tryd.underlying29 info5u rfl (by decide) _ (catL l k) (l k) (A k) (l k).length (c k) (fun _ => True) rfl rfl (fun _ _ => trivial) HR.out RY.out B.out B.out.size (by have := LB.out; omega) ?_; intro v1 w1 hR hb hg hat; have nR := Aside0.mk (show Kd.R (Kd.int .u8) 5 w1 wo.heap.size (fun _ => True) v1 (catL l k ++ l k) from hR); have nB := Aside0.mk hb; clear hR hb hg hat HR B RY))
          go_roundg k1
          case rel => exact ⟨k + 1, by first | rfl | rw [ki], ⟨by have := HK.out; have := LT.out; omega⟩, ⟨by rw [CS.out]; exact nR.out⟩, nB⟩
          case measure => omega
        · have u1 : decide ((k : Int) < 4) = false := decide_eq_false (by omega)
          have u1b : decide (k < 4) = false := decide_eq_false hk
          have hk4 : k = 4 := by have := HK.out; omega
          subst hk4
          go_wp2
          go_ret
          exact ⟨_, rfl, HR.out, B.out⟩
end Go.Proofs.YtjhnkncmdeineaaDoor.P
