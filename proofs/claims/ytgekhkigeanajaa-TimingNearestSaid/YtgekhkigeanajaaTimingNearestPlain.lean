/- What is found is nearest, and is there just if any is: the plain laws. Conditions: the ranges that each lemma names. -/
import Derived.Test.YtgekhkigeanajaaTimingFindsWalk
namespace Go.Proofs.Ytgekhkigeanajaa.P
open Go.RowKit Go.Proofs.YtgekhkigeanajaaW.PrintWords Go.Proofs.YtgekhkigeanajaaW.PrintLast Go.Proofs.YtgekhkigeanajaaW.PrintMore
set_option linter.unusedVariables false
set_option linter.unusedSimpArgs false
theorem dist_small {a b : Int} (a0 : 0 ≤ a) (a1 : a ≤ 1000) (b0 : 0 ≤ b) (b1 : b ≤ 1000) : bellbuoyref01_Dist.f a b = some (mx (a - b) (b - a), true) := by
  have h1 : wrap64 (9223372036854775807 + b) = 9223372036854775807 + b ∨ 0 ≤ b := .inr b0
  unfold bellbuoyref01_Dist.f bellbuoyref01_Sub.f mx
  by_cases h : a < b
  · rw [if_pos h, if_neg (by omega)]
    by_cases h2 : a > 0
    · rw [if_pos h2, i64w (-9223372036854775808 + a) (by omega) (by omega), if_neg (by omega)]
      simp only [Option.bind_some]
      rw [wr_small _ (by omega) (by omega)]
      split
      · rfl
      · omega
    · rw [if_neg h2]
      simp only [Option.bind_some]
      rw [wr_small _ (by omega) (by omega)]
      split
      · rfl
      · omega
  · rw [if_neg h, if_neg (by omega)]
    by_cases h2 : b > 0
    · rw [if_pos h2, i64w (-9223372036854775808 + b) (by omega) (by omega), if_neg (by omega)]
      simp only [Option.bind_some]
      rw [wr_small _ (by omega) (by omega)]
      split
      · have : a = b := by omega
        subst this
        rfl
      · rfl
    · rw [if_neg h2]
      simp only [Option.bind_some]
      rw [wr_small _ (by omega) (by omega)]
      split
      · have : a = b := by omega
        subst this
        rfl
      · rfl
theorem tick_shape (bit q : Int) (i : Nat) : tickQ bit q (shapeAt q i) = tickAt (Int.tdiv bit q) q i := rfl
theorem mem_mapQ {bit q : Int} (h : Int.tmod bit q = 0) {t : Tm} (i : Nat) (hi : i < 256) (ht : tickAt (Int.tdiv bit q) q i = t) (hr : t.rightB = true) : t ∈ mapQ bit q (shL q 256) := by
  rw [mapQ_right h, List.mem_filter, List.mem_map]
  exact ⟨⟨i, List.mem_range.2 hi, ht⟩, hr⟩
theorem mem_allTo {bit : Int} {t : Tm} {m : Nat} (h : t ∈ mapQ bit (25 - (m : Int)) (shL (25 - (m : Int)) 256)) : ∀ n, m < n → t ∈ allTo bit n
  | 0, hn => by omega
  | n + 1, hn => by
    unfold allTo
    by_cases e : m = n
    · subst e
      exact List.mem_append.2 (.inr h)
    · exact List.mem_append.2 (.inl (mem_allTo h n (by omega)))
/-- Every right timing of so many ticks is among them. -/
theorem all_complete {bit : Int} {o : Tm} (hr : o.rightB = true) (hb : o.k * o.q = bit) : o ∈ allL bit := by
  have r := Tm.right_of hr
  have q := q_range hr
  have br := bit_range hr
  have hq : o.q = 1 + o.p + o.a + o.b := rfl
  unfold allL
  rw [if_pos (by omega)]
  have hd : Int.tdiv bit o.q = o.k := by rw [← hb]; exact Int.mul_tdiv_cancel _ (by omega)
  have hm : Int.tmod bit o.q = 0 := by rw [← hb]; exact Int.mul_tmod_left _ _
  obtain ⟨m, em⟩ : ∃ m : Nat, (m : Int) = 25 - o.q := ⟨(25 - o.q).toNat, by omega⟩
  refine mem_allTo (m := m) ?_ 18 (by omega)
  have eq : 25 - (m : Int) = o.q := by omega
  rw [eq]
  refine mem_mapQ hm ((o.p - 1) * 32 + (o.a - 1) * 4 + (o.j - 1)).toNat (by omega) ?_ hr
  rw [hd]
  obtain ⟨i, ei⟩ : ∃ i : Nat, i = ((o.p - 1) * 32 + (o.a - 1) * 4 + (o.j - 1)).toNat := ⟨_, rfl⟩
  rw [← ei]
  have e1 : (i : Int) / 32 + 1 = o.p := by omega
  have e2 : (i : Int) / 4 % 8 + 1 = o.a := by omega
  have e3 : (i : Int) % 4 + 1 = o.j := by omega
  unfold tickAt
  rw [e1, e2, e3, show o.q - 1 - o.p - o.a = o.b by omega]
/-- Each of them is of so many ticks. -/
theorem mapQ_bit {bit q : Int} {t : Tm} (h : t ∈ mapQ bit q (shL q 256)) : t.k * t.q = bit := by
  unfold mapQ at h
  obtain ⟨x, hx, rfl⟩ := List.mem_map.1 h
  obtain ⟨hx1, hx2⟩ := List.mem_filter.1 hx
  unfold shL at hx1
  obtain ⟨i, _, rfl⟩ := List.mem_map.1 (List.mem_filter.1 hx1).1
  unfold okQ at hx2
  have h0 : Int.tmod bit q = 0 := by
    have := (Bool.and_eq_true _ _ ▸ hx2 : _ ∧ _).1
    simpa using this
  have e : (tickQ bit q (shapeAt q i)).q = q := by
    show 1 + ((i : Int) / 32 + 1) + ((i : Int) / 4 % 8 + 1) + (q - 1 - ((i : Int) / 32 + 1) - ((i : Int) / 4 % 8 + 1)) = q
    omega
  rw [e]
  show Int.tdiv bit q * q = bit
  have := Int.mul_tdiv_add_tmod bit q
  rw [h0, Int.mul_comm] at this
  omega
theorem allTo_bit {bit : Int} {t : Tm} : ∀ n, t ∈ allTo bit n → t.k * t.q = bit
  | 0, h => by cases h
  | n + 1, h => by
    unfold allTo at h
    rcases List.mem_append.1 h with h | h
    · exact allTo_bit n h
    · exact mapQ_bit h
theorem allL_bit {bit : Int} {t : Tm} (h : t ∈ allL bit) : t.k * t.q = bit := by
  unfold allL at h
  split at h
  · exact allTo_bit 18 h
  · cases h
theorem step_le (s : Int) (m x : Tm) : offV s (stepM s m x) ≤ offV s m ∧ offV s (stepM s m x) ≤ offV s x ∧ (stepM s m x = m ∨ stepM s m x = x) := by
  rw [stepM_eq]
  split
  · exact ⟨by omega, Int.le_refl _, .inr rfl⟩
  · split
    · split
      · exact ⟨by omega, Int.le_refl _, .inr rfl⟩
      · exact ⟨Int.le_refl _, by omega, .inl rfl⟩
    · exact ⟨Int.le_refl _, by omega, .inl rfl⟩
theorem minV_le (s : Int) : ∀ (xs : List Tm) (m : Tm), offV s (minV s m xs) ≤ offV s m ∧ (∀ x ∈ xs, offV s (minV s m xs) ≤ offV s x) ∧ (minV s m xs = m ∨ minV s m xs ∈ xs)
  | [], m => ⟨Int.le_refl _, fun x h => by (cases h), .inl rfl⟩
  | x :: xs, m => by
    have h0 := step_le s m x
    have h1 := minV_le s xs (stepM s m x)
    show offV s (minV s (stepM s m x) xs) ≤ _ ∧ (∀ y ∈ x :: xs, offV s (minV s (stepM s m x) xs) ≤ _) ∧ (minV s (stepM s m x) xs = m ∨ minV s (stepM s m x) xs ∈ x :: xs)
    refine ⟨by omega, fun y hy => ?_, ?_⟩
    · rcases List.mem_cons.1 hy with rfl | hy
      · omega
      · exact h1.2.1 y hy
    · rcases h1.2.2 with e | e
      · rw [e]
        rcases h0.2.2 with e2 | e2
        · exact .inl e2
        · exact .inr (by rw [e2]; exact List.mem_cons_self)
      · exact .inr (List.mem_cons_of_mem _ e)
theorem find_none {bit : Int} (s : Int) (h : allL bit = []) (o : Tm) : findV bit s = (z5, false) ∧ ¬ (o.rightB = true ∧ o.bitV = bit) := by
  refine ⟨by unfold findV; rw [h], fun hq => ?_⟩
  have e : o.bitV = o.k * o.q := if_pos hq.1
  have := all_complete hq.1 (e.symm.trans hq.2)
  rw [h] at this
  cases this
theorem find_some {bit s : Int} (s0 : 0 ≤ s) (s1 : s ≤ 1000) (h : allL bit ≠ []) : ∃ t, findV bit s = (t, true) ∧ t.rightB = true ∧ t.bitV = bit ∧ ∀ o : Tm, o.rightB = true → o.bitV = bit → offV s t ≤ offV s o := by
  cases e : allL bit with
  | nil => exact absurd e h
  | cons x xs =>
    have hm := minV_le s xs x
    have hin : minV s x xs ∈ allL bit := by
      rw [e]
      rcases hm.2.2 with q | q
      · rw [q]; exact List.mem_cons_self
      · exact List.mem_cons_of_mem _ q
    have hr := allL_right bit _ hin
    refine ⟨minV s x xs, by unfold findV; rw [e]; exact if_neg (by omega), hr, ?_, fun o ho hb => ?_⟩
    · exact (if_pos hr).trans (allL_bit hin)
    · have eb : o.bitV = o.k * o.q := if_pos ho
      have := all_complete ho (eb.symm.trans hb)
      rw [e] at this
      rcases List.mem_cons.1 this with rfl | q
      · exact hm.1
      · exact hm.2.1 o q
theorem sam_range (t : Tm) : 0 ≤ t.samV ∧ t.samV ≤ 1000 := by
  unfold Tm.samV
  split
  · next h =>
    have := sample_range h
    omega
  · omega
end Go.Proofs.Ytgekhkigeanajaa.P
