/- A clock that goes by the rate of two samples tells what the other one had, but for what is rounded: the walk. Condition: the numbers are of their kinds. -/
import Derived.Test.YtgnkmpgnlpjglaaClockLib3
namespace Go.Proofs.Ytgnkmpgnlpjglaa.P
open Go.RowKit Go.Proofs.YtgnkmpgnlpjglaaW.PrintWords Go.Proofs.YtgnkmpgnlpjglaaW.PrintLast Go.Proofs.YtgnkmpgnlpjglaaW.PrintMore
set_option linter.unusedVariables false
set_option linter.unusedSimpArgs false
theorem ClkNew_calls (w : World) : Calls Try.prog 16 #[] w fun e w' => ∃ g, w.heap.size ≤ g ∧ e = .returned (.pointer (some ⟨g, 0, none⟩)) ∧ At4 98 w' g 0 0 1048576 0 ∧ Below w.heap.size w w' := by
  refine (clock_New.calls 0 0 1048576 0 w w (Below.refl _ _) rfl).mono ?_
  rintro e w1 ⟨g, rfl, hs, hb, _⟩
  exact ⟨g, hs.2, rfl, hs.1, hb⟩
set_option maxHeartbeats 4000000 in
set_option maxRecDepth 100000 in
theorem Follows_core (here off h1 h2 n o1 o2 p d nd r t x : Int) (k : Nat) (w : World) (e1 : wrap64 here = here) (e2 : Int.tmod here 1048576 = h2) (e3 : wrap64 (h2 + 1000) = n) (e4 : wrap64 off = off) (e5 : Int.tmod off 4000 = o2) (e6 : wrap64 (n * o2) = p) (e7 : p / 1048576 = d) (e8 : wrap64 (n + d) = nd)
    (hr : rate_Of.f k 0 0 nd n 4096 = some (r, true)) (ht : tuneV 0 0 1048576 0 r = (0, 0, 0, r)) (hl : lookV 0 0 r n = (t, true)) (hrd : readV 0 t true = t) (hd : exact_Dist.f t nd = some (x, true)) (hx : decide (x ≤ 2) = true) (i1 : In64 r) (i2 : In64 n) :
    Calls Try.prog 5 #[.int .u32 here, .int .i16 off] w fun e w' => e = .returned (.bool true) ∧ Below w.heap.size w w' := by
  have HR := Aside0.mk hr
  have HT := Aside0.mk ht
  have HL := Aside0.mk hl
  have HRD := Aside0.mk hrd
  have HD := Aside0.mk hd
  have I := Aside0.mk (And.intro i1 i2)
  have J : Aside0 (In64 0 ∧ In64 1048576) := ⟨by decide, by decide⟩
  have q1 : (r == r) = true := by simp
  clear hr ht hl hrd hd i1 i2
  have hu41 := Try.underlying41
  go_enter Try.func5, Try.ntmps5
  go_wp2_with fail
  (with_reducible refine (rate_Of.calls k 0 0 nd n 4096 r true _ HR.out).mono ?_); rintro e w1 ⟨rfl, hb1⟩
  go_wp2_with fail
  (with_reducible refine (ClkNew_calls _).mono ?_); rintro e w2 ⟨g, hg, rfl, hc, hb2⟩
  have K2 := Aside0.mk hc
  have G2 : Aside0 (w.heap.size ≤ g) := ⟨Nat.le_trans hb1.size hg⟩
  have B2 := Aside0.mk (below_step hb1 hb2)
  clear hc hg hb1 hb2
  go_wp2_with fail
  (with_reducible refine (Tune_calls g 0 0 1048576 0 0 r 0 0 0 r _ K2.out J.out.1 J.out.1 J.out.2 J.out.1 HT.out).mono ?_); rintro e w3 ⟨rfl, h3, _, hb⟩
  have K3 := Aside0.mk h3
  have B3 := Aside0.mk (B2.out.trans (hb _ G2.out B2.out.size))
  clear h3 hb K2 B2
  go_wp2_with fail
  (with_reducible refine (Read_calls g 0 0 r 0 n t true _ K3.out J.out.1 J.out.1 I.out.1 I.out.2 HL.out).mono ?_); rintro e w4 ⟨rfl, h4, _, hb⟩
  rw [HRD.out] at h4 ⊢
  have K4 := Aside0.mk h4
  have B4 := Aside0.mk (B3.out.trans (hb _ G2.out B3.out.size))
  clear h4 hb K3 B3
  go_wp2_with fail
  (with_reducible refine (exact_Dist.calls t nd x true _ HD.out).mono ?_); rintro e w5 ⟨rfl, hb⟩
  have K5 := Aside0.mk (K4.out.below hb)
  have B5 := Aside0.mk (below_step B4.out hb)
  clear hb K4 B4
  go_wp2_with fail
  (with_reducible refine (Rate_calls g 0 0 r t _ K5.out).mono ?_); rintro e w6 ⟨rfl, rfl⟩
  go_wp2_with fail
  go_ret
  exact ⟨by simp, B5.out⟩
theorem past_eq (a b : Int) (a0 : -9223372036854775808 ≤ a) (a1 : a ≤ 9223372036854775807) (b0 : -9223372036854775808 ≤ b) (b1 : b ≤ 9223372036854775807) (h0 : 0 < b - a) (h1 : b - a ≤ 9223372036854775807) : rate_past.f a b = some (b - a, true) := by
  unfold rate_past.f
  rw [Sub_eq b a b0 b1 a0 a1, fit64_in (by omega) h1]
  simp only [Option.bind_some, if_true]
  rw [decide_eq_true (by omega)]
theorem rate_plain (nd n r0 r : Int) (n0 : 1 ≤ n) (n1 : n ≤ 2000000) (m0 : 1 ≤ nd) (m1 : nd ≤ 3000000) (hr : nd * 1048576 / n = r0) (hc : r = if r0 < 1044480 then 1044480 else if 1052672 < r0 then 1052672 else r0) : rate_Of.f 5 0 0 nd n 4096 = some (r, true) := by
  have hb : rate_bounded.f 4096 = some true := by decide +kernel
  have hp : 0 ≤ nd * 1048576 / n ∧ nd * 1048576 / n ≤ nd * 1048576 := ⟨Int.ediv_nonneg (by omega) (by omega), Int.ediv_le_self _ (by omega)⟩
  unfold rate_Of.f
  rw [past_eq 0 nd (by omega) (by omega) (by omega) (by omega) (by omega) (by omega), past_eq 0 n (by omega) (by omega) (by omega) (by omega) (by omega) (by omega), hb]
  simp only [Option.bind_some, if_true, Bool.not_true, Int.sub_zero]
  rw [rate_Of.j0]
  rw [if_neg (by decide)]
  unfold exact_Scale.f
  rw [if_neg (by omega), if_pos ⟨by unfold In64; omega, by unfold In64; omega, by unfold In64; omega⟩]
  rw [show fits (nd * 1048576 / n) = (nd * 1048576 / n, true) by unfold fits; rw [if_pos (by omega)]]
  simp only [Option.bind_some, if_true]
  rw [hr] at hp ⊢
  rw [hc]
  unfold exact_Clamp.f mn
  rw [wr64 (1048576 - 4096) (by omega) (by omega), wr64 (1048576 + 4096) (by omega) (by omega)]
  by_cases c1 : r0 < 1044480
  · rw [if_pos (by omega), if_pos c1]; rfl
  · rw [if_neg (by omega), if_neg c1]
    by_cases c2 : 1052672 < r0
    · rw [if_pos (by omega), if_pos c2]; rfl
    · rw [if_neg (by omega), if_neg c2]; rfl
theorem Dist_eq (a b : Int) (a0 : -9223372036854775808 ≤ a) (a1 : a ≤ 9223372036854775807) (b0 : -9223372036854775808 ≤ b) (b1 : b ≤ 9223372036854775807) : exact_Dist.f a b = some (fit64 (if a < b then b - a else a - b)) := by
  unfold exact_Dist.f mx mn
  by_cases h : a < b
  · rw [if_pos h, if_pos h, if_neg (by omega), Sub_eq _ _ b0 b1 a0 a1]
    simp only [Option.bind_some]
  · rw [if_neg h, if_neg h]
    by_cases h2 : b < a
    · rw [if_pos h2, Sub_eq _ _ a0 a1 b0 b1]
      simp only [Option.bind_some]
    · obtain rfl : a = b := by omega
      rw [if_neg h2, Sub_eq _ _ a0 a1 a0 a1]
      simp only [Option.bind_some]
theorem TopFollows_walk (a0 a1 : Int) (w : World) (w0 : (Lit.int .u32 a0).wf = true) (w1 : (Lit.int .i16 a1).wf = true) :
    Calls Try.prog 5 #[.int .u32 a0, .int .i16 a1] w fun e w' => e = .returned (.bool true) ∧ Below w.heap.size w w' := by
  have b0 : 0 ≤ a0 ∧ a0 ≤ 4294967295 := by
    simp only [Lit.wf, Bool.and_eq_true, decide_eq_true_eq] at w0
    exact w0
  have b1 : -32768 ≤ a1 ∧ a1 ≤ 32767 := by
    simp only [Lit.wf, Bool.and_eq_true, decide_eq_true_eq] at w1
    exact w1
  have hh : 0 ≤ Int.tmod a0 1048576 ∧ Int.tmod a0 1048576 < 1048576 := by
    rw [Int.tmod_eq_emod_of_nonneg b0.1]; omega
  have ho1 := Int.tmod_lt_of_pos a1 (show (0 : Int) < 4000 by omega)
  have ho2 := Int.lt_tmod_of_pos a1 (show (0 : Int) < 4000 by omega)
  generalize hh2 : Int.tmod a0 1048576 = h2 at hh
  generalize ho : Int.tmod a1 4000 = o at ho1 ho2
  obtain ⟨n, hn⟩ : ∃ n, n = h2 + 1000 := ⟨_, rfl⟩
  have p1 : n * o ≤ n * 3999 := Int.mul_le_mul_of_nonneg_left (by omega) (by omega)
  have p2 : n * (-3999) ≤ n * o := Int.mul_le_mul_of_nonneg_left (by omega) (by omega)
  have e6 : wrap64 (n * o) = n * o := wr64 _ (by omega) (by omega)
  generalize hp : n * o = p at p1 p2 e6
  obtain ⟨d, hd⟩ : ∃ d, p / 1048576 = d := ⟨_, rfl⟩
  have nd1 : 1 ≤ n + d := by omega
  have nd2 : n + d ≤ 3000000 := by omega
  obtain ⟨r0, hr0⟩ : ∃ r0, (n + d) * 1048576 / n = r0 := ⟨_, rfl⟩
  obtain ⟨r, hr⟩ : ∃ r, r = if r0 < 1044480 then 1044480 else if 1052672 < r0 then 1052672 else r0 := ⟨_, rfl⟩
  have q1 : n * r0 ≤ (n + d) * 1048576 := by rw [← hr0]; exact Int.mul_ediv_self_le (by omega)
  have q2 : (n + d) * 1048576 < n * r0 + n := by rw [← hr0]; exact Int.lt_mul_ediv_self_add (by omega)
  have rr : 1044480 ≤ r ∧ r ≤ 1052672 := by rw [hr]; split; omega; split <;> omega
  -- how near it comes
  have near : n + d - 2 ≤ n * r / 1048576 ∧ n * r / 1048576 ≤ n + d + 2 := by
    by_cases c1 : r0 < 1044480
    · obtain rfl : r = 1044480 := by rw [hr, if_pos c1]
      have : n * r0 ≤ n * 1044479 := Int.mul_le_mul_of_nonneg_left (by omega) (by omega)
      omega
    · by_cases c2 : 1052672 < r0
      · exfalso
        have : n * 1052673 ≤ n * r0 := Int.mul_le_mul_of_nonneg_left (by omega) (by omega)
        omega
      · obtain rfl : r = r0 := by rw [hr, if_neg c1, if_neg c2]
        generalize n * r = X at *
        omega
  have np : 0 ≤ n * r ∧ n * r ≤ 3000000000000 := by
    have h1 : n * r ≤ n * 1052672 := Int.mul_le_mul_of_nonneg_left rr.2 (by omega)
    have h2' := Int.mul_nonneg (show 0 ≤ n by omega) (show 0 ≤ r by omega)
    omega
  obtain ⟨t, ht⟩ : ∃ t, n * r / 1048576 = t := ⟨_, rfl⟩
  rw [ht] at near
  have l0 : lookV 0 0 1048576 0 = (0, true) := by decide +kernel
  have ht' : tuneV 0 0 1048576 0 r = (0, 0, 0, r) := by
    unfold tuneV onV
    rw [if_pos rr, l0]
    rfl
  have hl : lookV 0 0 r n = (t, true) := by
    unfold lookV In64 wi
    rw [Int.sub_zero, Int.add_zero, ht, if_pos ⟨by omega, by omega, decide_eq_true (by omega)⟩]
  have hrd : readV 0 t true = t := by
    unfold readV
    rw [decide_eq_true (by omega)]
    rfl
  have hdist : exact_Dist.f t (n + d) = some (if t < n + d then n + d - t else t - (n + d), true) := by
    rw [Dist_eq _ _ (by omega) (by omega) (by omega) (by omega), fit64_in (by split <;> omega) (by split <;> omega)]
  exact Follows_core a0 a1 0 h2 n 0 o p d (n + d) r t _ 5 w (wr64 _ (by omega) (by omega)) hh2 (by rw [hn]; exact wr64 _ (by omega) (by omega)) (wr64 _ (by omega) (by omega)) ho (by rw [hp]; exact e6) hd (wr64 _ (by omega) (by omega))
    (rate_plain (n + d) n r0 r (by omega) (by omega) nd1 nd2 hr0 hr) ht' hl hrd hdist (decide_eq_true (by split <;> omega)) (by unfold In64; omega) (by unfold In64; omega)
end Go.Proofs.Ytgnkmpgnlpjglaa.P
