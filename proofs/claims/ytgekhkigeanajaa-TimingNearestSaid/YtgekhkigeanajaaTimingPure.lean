/- What any timing comes to, and which comes nearest, by the document and the program: the plain laws. Conditions: the ranges that each lemma names. -/
import Derived.Test.YtgekhkigeanajaaTimingSame
namespace Go.Proofs.Ytgekhkigeanajaa.P
open Go.RowKit Go.Proofs.YtgekhkigeanajaaW.PrintWords Go.Proofs.YtgekhkigeanajaaW.PrintLast Go.Proofs.YtgekhkigeanajaaW.PrintMore
set_option linter.unusedVariables false
set_option linter.unusedSimpArgs false
def Tm.quV (t : Tm) : Int := if t.rightB = true then t.q else 0
def Tm.bitV (t : Tm) : Int := if t.rightB = true then t.k * t.q else 0
def Tm.samV (t : Tm) : Int := if t.rightB = true then t.sample else 0
def Tm.driV (t : Tm) : Int := if t.rightB = true then t.drift else 0
def Tm.movV (t : Tm) (late : Int) : Int := if t.rightB = true then (if late < -t.j then -t.j else if late > t.j then t.j else late) else 0
section
variable (t : Tm)
theorem Right_eq : timing_Right.f t.k t.p t.a t.b t.j = some t.rightB := by
  unfold timing_Right.f
  rw [timed_right_eq]
  rfl
theorem RRight_eq : bellbuoyref36_Right.f t.k t.p t.a t.b t.j = some t.rightB := refRight_eq _ _ _ _ _
theorem Quanta_eq : timing_Quanta.f t.k t.p t.a t.b t.j = some t.quV := by
  unfold timing_Quanta.f Tm.quV
  rw [Right_eq]
  simp only [Option.bind_some]
  cases h : t.rightB
  · rfl
  · rw [if_pos rfl, if_pos rfl, quanta_eq h]
    rfl
theorem rquanta_eq {t : Tm} (h : t.rightB = true) : bellbuoyref36_quanta.f t.k t.p t.a t.b t.j = some t.q := quanta_eq h
theorem RQuanta_eq : bellbuoyref36_Quanta.f t.k t.p t.a t.b t.j = some t.quV := by
  unfold bellbuoyref36_Quanta.f Tm.quV
  rw [RRight_eq]
  simp only [Option.bind_some]
  cases h : t.rightB
  · rfl
  · rw [if_pos rfl, if_pos rfl, rquanta_eq h]
    rfl
theorem q_range {t : Tm} (h : t.rightB = true) : 8 ≤ t.q ∧ t.q ≤ 25 := by
  have := Tm.right_of h
  unfold Tm.q
  omega
theorem bit_range {t : Tm} (h : t.rightB = true) : 8 ≤ t.k * t.q ∧ t.k * t.q ≤ 25600 := by
  have r := Tm.right_of h
  have q := q_range h
  have h1 : 1 * t.q ≤ t.k * t.q := Int.mul_le_mul_of_nonneg_right (by omega) (by omega)
  have h2 : t.k * t.q ≤ 1024 * t.q := Int.mul_le_mul_of_nonneg_right (by omega) (by omega)
  omega
theorem Bit_eq : timing_Bit.f t.k t.p t.a t.b t.j = some t.bitV := by
  unfold timing_Bit.f Tm.bitV
  rw [Right_eq]
  simp only [Option.bind_some]
  cases h : t.rightB
  · rfl
  · have := bit_range h
    rw [if_pos rfl, if_pos rfl, quanta_eq h]
    simp only [Option.bind_some]
    rw [wr_small _ (by omega) (by omega)]
theorem RBit_eq : bellbuoyref36_Bit.f t.k t.p t.a t.b t.j = some t.bitV := by
  unfold bellbuoyref36_Bit.f bellbuoyref36_part.f Tm.bitV
  rw [RQuanta_eq, RRight_eq]
  simp only [Option.bind_some]
  unfold Tm.quV
  cases h : t.rightB
  · simp only [Bool.false_eq_true, if_false, Option.bind_some]
    rw [wr_small _ (by omega) (by omega)]
    rfl
  · have := bit_range h
    rw [if_pos rfl, if_pos rfl, if_pos rfl]
    simp only [Option.bind_some]
    rw [Int.mul_comm t.q t.k, wr_small _ (by omega) (by omega)]
theorem Sample_eq : timing_Sample.f t.k t.p t.a t.b t.j = some t.samV := by
  unfold timing_Sample.f Tm.samV
  rw [Right_eq]
  simp only [Option.bind_some]
  cases h : t.rightB
  · rfl
  · rw [if_pos rfl, if_pos rfl, sample_eq h]
    rfl
theorem RSample_eq : bellbuoyref36_Sample.f t.k t.p t.a t.b t.j = some t.samV := by
  unfold bellbuoyref36_Sample.f Tm.samV
  rw [RRight_eq]
  simp only [Option.bind_some]
  cases h : t.rightB
  · rfl
  · rw [if_pos rfl, if_pos rfl]
    exact sample_eq h
theorem Drift_eq : timing_Drift.f t.k t.p t.a t.b t.j = some t.driV := by
  unfold timing_Drift.f Tm.driV
  rw [Right_eq]
  simp only [Option.bind_some]
  cases h : t.rightB
  · rfl
  · rw [if_pos rfl, if_pos rfl, drift_eq h]
    rfl
theorem RDrift_eq : bellbuoyref36_Drift.f t.k t.p t.a t.b t.j = some t.driV := by
  unfold bellbuoyref36_Drift.f Tm.driV
  rw [RRight_eq]
  simp only [Option.bind_some]
  cases h : t.rightB
  · rfl
  · have r := Tm.right_of h
    have d := drift_parts h
    have hq : t.q = 1 + t.p + t.a + t.b := rfl
    have hm : 1 ≤ mn t.a t.b ∧ mn t.a t.b ≤ 8 := by unfold mn; split <;> omega
    rw [if_pos rfl, if_pos rfl, rquanta_eq h]
    simp only [Option.bind_some]
    rw [wr_small (13 * t.q) (by omega) (by omega), wr_small (13 * t.q - t.b) (by omega) (by omega), wr_small (2 * (13 * t.q - t.b)) (by omega) (by omega), if_neg (by omega), wr_small (20 * t.q) (by omega) (by omega), if_neg (by omega)]
    have w1 : wrap64 (1000000 * mn t.a t.b) = 1000000 * mn t.a t.b := i64w _ (by omega) (by omega)
    have w2 : wrap64 (1000000 * t.j) = 1000000 * t.j := i64w _ (by omega) (by omega)
    rw [w1, w2, Int.tdiv_eq_ediv_of_nonneg (by omega), Int.tdiv_eq_ediv_of_nonneg (by omega), i64w _ (by omega) (by omega), i64w _ (by omega) (by omega)]
    rfl
theorem Moved_eq (late : Int) : timing_Moved.f t.k t.p t.a t.b t.j late = some (t.movV late) := by
  unfold timing_Moved.f Tm.movV exact_Clamp.f
  rw [Right_eq]
  simp only [Option.bind_some]
  cases h : t.rightB
  · rfl
  · have r := Tm.right_of h
    rw [if_pos rfl, if_pos rfl, wr_small (-t.j) (by omega) (by omega)]
    by_cases h1 : late < -t.j
    · rw [if_pos h1, if_pos h1]
      rfl
    · rw [if_neg h1, if_neg h1]
      simp only [Option.bind_some]
      unfold mn
      by_cases h2 : t.j < late
      · rw [if_pos h2]
      · rw [if_neg h2]
theorem RMoved_eq (late : Int) : bellbuoyref36_Moved.f t.k t.p t.a t.b t.j late = some (t.movV late) := by
  unfold bellbuoyref36_Moved.f Tm.movV
  rw [RRight_eq]
  simp only [Option.bind_some]
  cases h : t.rightB
  · rfl
  · have r := Tm.right_of h
    rw [if_pos rfl, if_pos rfl, wr_small (-t.j) (by omega) (by omega)]
    by_cases h1 : late < -t.j
    · rw [if_neg (by omega), if_pos h1, if_pos h1]
    · rw [if_neg h1, if_neg h1]
      by_cases h2 : late > t.j
      · rw [if_pos h2, if_pos h2]
      · rw [if_neg h2, if_neg h2]
end
theorem roff_eq {s : Int} {t : Tm} (h : t.rightB = true) (s0 : 0 ≤ s) (s1 : s ≤ 1000) : bellbuoyref36_off.f t.sample s = some (offV s t) := by
  have := sample_range h
  unfold bellbuoyref36_off.f offV mx
  by_cases h1 : t.sample < s
  · rw [if_pos h1, wr_small _ (by omega) (by omega), if_pos (by omega)]
  · rw [if_neg h1, wr_small _ (by omega) (by omega)]
    by_cases h2 : t.sample - s < s - t.sample
    · omega
    · rw [if_neg h2]
theorem stepM_eq {s : Int} {m x : Tm} : stepM s m x = if offV s x < offV s m then x else if offV s x = offV s m then (if x.drift > m.drift then x else m) else m := by
  unfold stepM cmpV orI cmpI
  by_cases h1 : offV s x < offV s m
  · simp [h1]
  · by_cases h2 : offV s m < offV s x
    · have : ¬ offV s x = offV s m := by omega
      simp [h1, h2, this]
    · have h3 : offV s x = offV s m := by omega
      by_cases h4 : m.drift < x.drift
      · simp [h3, h4]
      · by_cases h5 : x.drift < m.drift <;> simp [h3, h4, h5]
theorem rd_S (l : List Tm) (i : Nat) (t : Tm) (h : l[i]? = some t) : rd_T23 (l.map Tm.S) (i : Int) = t.S := by
  unfold rd_T23
  rw [List.getD_eq_getElem?_getD, Int.toNat_natCast, List.getElem?_map, h]
  rfl
theorem wr_next (i : Nat) (h : i ≤ 5000) : wrap64 ((i : Int) + 1) = ((i + 1 : Nat) : Int) := by rw [wr_small _ (by omega) (by omega)]; rfl
/-- One round once something is found. -/
theorem find_step {s : Int} {l : List Tm} {i : Nat} {x m : Tm} (hx : l[i]? = some x) (hi : i ≤ 5000) (rx : x.rightB = true) (rm : m.rightB = true) (s0 : 0 ≤ s) (s1 : s ≤ 1000) (k : Nat) :
    bellbuoyref36_Find.l0 (k + 1) s true (l.map Tm.S) (i : Int) m.k m.p m.a m.b m.j = bellbuoyref36_Find.l0 k s true (l.map Tm.S) ((i + 1 : Nat) : Int) (stepM s m x).k (stepM s m x).p (stepM s m x).a (stepM s m x).b (stepM s m x).j := by
  have hil : i < l.length := (List.getElem?_eq_some_iff.1 hx).1
  have e1 : bellbuoyref36_Sample.f (x.S).f0 (x.S).f1 (x.S).f2 (x.S).f3 (x.S).f4 = some x.sample := by rw [show bellbuoyref36_Sample.f (x.S).f0 (x.S).f1 (x.S).f2 (x.S).f3 (x.S).f4 = some x.samV from RSample_eq x]; unfold Tm.samV; rw [if_pos rx]
  have e2 : bellbuoyref36_Sample.f m.k m.p m.a m.b m.j = some m.sample := by rw [RSample_eq m]; unfold Tm.samV; rw [if_pos rm]
  have e3 : bellbuoyref36_Drift.f (x.S).f0 (x.S).f1 (x.S).f2 (x.S).f3 (x.S).f4 = some x.drift := by rw [show bellbuoyref36_Drift.f (x.S).f0 (x.S).f1 (x.S).f2 (x.S).f3 (x.S).f4 = some x.driV from RDrift_eq x]; unfold Tm.driV; rw [if_pos rx]
  have e4 : bellbuoyref36_Drift.f m.k m.p m.a m.b m.j = some m.drift := by rw [RDrift_eq m]; unfold Tm.driV; rw [if_pos rm]
  rw [bellbuoyref36_Find.l0, if_pos (by rw [List.length_map]; omega), if_pos (by omega), rd_S l i x hx, e1, e2, e3, e4]
  simp only [Option.bind_some]
  rw [roff_eq rx s0 s1, roff_eq rm s0 s1]
  simp only [Option.bind_some]
  rw [if_pos trivial, wr_next i hi, stepM_eq]
  by_cases h1 : offV s x < offV s m
  · rw [if_pos h1, if_pos h1]
    rfl
  · rw [if_neg h1, if_neg h1]
    by_cases h2 : offV s x = offV s m
    · rw [if_pos h2, if_pos h2]
      by_cases h3 : x.drift > m.drift
      · rw [if_pos h3, if_pos h3]
        rfl
      · rw [if_neg h3, if_neg h3]
    · rw [if_neg h2, if_neg h2]
theorem find_first {s : Int} {x : Tm} {xs : List Tm} (rx : x.rightB = true) (s0 : 0 ≤ s) (s1 : s ≤ 1000) (k : Nat) :
    bellbuoyref36_Find.l0 (k + 1) s false ((x :: xs).map Tm.S) 0 0 0 0 0 0 = bellbuoyref36_Find.l0 k s true ((x :: xs).map Tm.S) 1 x.k x.p x.a x.b x.j := by
  have e1 : bellbuoyref36_Sample.f (x.S).f0 (x.S).f1 (x.S).f2 (x.S).f3 (x.S).f4 = some x.sample := by rw [show bellbuoyref36_Sample.f (x.S).f0 (x.S).f1 (x.S).f2 (x.S).f3 (x.S).f4 = some x.samV from RSample_eq x]; unfold Tm.samV; rw [if_pos rx]
  have e2 : bellbuoyref36_Sample.f 0 0 0 0 0 = some 0 := RSample_eq z5
  have e0 : rd_T23 ((x :: xs).map Tm.S) 0 = x.S := rfl
  have e5 : bellbuoyref36_off.f 0 s = some (if 0 < s then wrap64 (s - 0) else wrap64 (0 - s)) := by unfold bellbuoyref36_off.f; split <;> rfl
  rw [bellbuoyref36_Find.l0, if_pos (by simp), if_pos (by decide), e0, e1, e2]
  simp only [Option.bind_some]
  rw [roff_eq rx s0 s1, e5]
  simp only [Option.bind_some]
  rw [if_neg (by decide), show wrap64 (0 + 1) = 1 from wr_small _ (by omega) (by omega)]
  rfl
theorem find_rest {s : Int} {l : List Tm} (s0 : 0 ≤ s) (s1 : s ≤ 1000) (hl : l.length ≤ 5000) (hr : ∀ t ∈ l, t.rightB = true) : ∀ (n i : Nat) (m : Tm), i + n = l.length → m.rightB = true →
    ∀ k, bellbuoyref36_Find.l0 (k + n + 1) s true (l.map Tm.S) (i : Int) m.k m.p m.a m.b m.j = some ((minV s m (l.drop i)).k, (minV s m (l.drop i)).p, (minV s m (l.drop i)).a, (minV s m (l.drop i)).b, (minV s m (l.drop i)).j, true)
  | 0, i, m, h, rm, k => by
    rw [List.drop_eq_nil_of_le (by omega), show k + 0 + 1 = k + 1 from rfl, bellbuoyref36_Find.l0, if_neg (by rw [List.length_map]; omega)]
    rfl
  | n + 1, i, m, h, rm, k => by
    have hi : i < l.length := by omega
    have hx := List.getElem?_eq_getElem hi
    have rx := hr _ (List.getElem_mem hi)
    rw [show k + (n + 1) + 1 = (k + n + 1) + 1 by omega, find_step hx (by omega) rx rm s0 s1]
    have e : l.drop i = l[i] :: l.drop (i + 1) := List.drop_eq_getElem_cons hi
    rw [e, find_rest s0 s1 hl hr n (i + 1) (stepM s m l[i]) (by omega) (by unfold stepM; split; exact rx; exact rm) k]
    rfl
theorem upO {α : Type} {f : Nat → Option α} (h : ∀ k r, f k = some r → f (k + 1) = some r) {K : Nat} {r : α} (hK : f K = some r) : ∀ m, f (K + m) = some r
  | 0 => hK
  | m + 1 => h _ _ (upO h hK m)
theorem find_same {bit s : Int} (b64 : -9223372036854775808 ≤ bit ∧ bit ≤ 9223372036854775807) : ∃ K, bellbuoyref36_Find.f K bit s = some ((findV bit s).1.k, (findV bit s).1.p, (findV bit s).1.a, (findV bit s).1.b, (findV bit s).1.j, (findV bit s).2) := by
  obtain ⟨K, hK⟩ := list_same b64
  have up := upO (f := fun k => bellbuoyref36_list.f k bit) (fun k r h => bellbuoyref36_list.mono bit k r h) hK
  by_cases hs : s < 0 ∨ s > 1000
  · have e : findV bit s = (z5, false) := by
      unfold findV
      cases allL bit with
      | nil => rfl
      | cons x xs => exact if_pos hs
    refine ⟨1, ?_⟩
    rw [e]
    unfold bellbuoyref36_Find.f
    by_cases h1 : s < 0
    · rw [if_pos h1, bellbuoyref36_Find.j0, if_pos rfl]
      rfl
    · rw [if_neg h1, bellbuoyref36_Find.j0, if_pos (decide_eq_true (by omega))]
      rfl
  · have hn : ∀ k, bellbuoyref36_Find.f (k + 1) bit s = (bellbuoyref36_list.f k bit).bind fun t => bellbuoyref36_Find.l0 k s false t 0 0 0 0 0 0 := fun k => by
      unfold bellbuoyref36_Find.f
      rw [if_neg (by omega), bellbuoyref36_Find.j0, if_neg (by rw [decide_eq_false (by omega)]; decide)]
    cases h : allL bit with
    | nil =>
      have e : findV bit s = (z5, false) := by unfold findV; rw [h]
      refine ⟨K + 1 + 1, ?_⟩
      rw [hn, up 1, h, e]
      simp only [Option.bind_some, List.map_nil]
      rw [bellbuoyref36_Find.l0, if_neg (by decide)]
      rfl
    | cons x xs =>
      have e : findV bit s = (minV s x xs, true) := by unfold findV; rw [h]; exact if_neg hs
      have hl := allL_len bit
      have hr := allL_right bit
      rw [h] at hl hr
      refine ⟨K + (xs.length + 1 + 1) + 1, ?_⟩
      rw [hn, up (xs.length + 1 + 1), h, e]
      simp only [Option.bind_some]
      rw [show K + (xs.length + 1 + 1) = (K + xs.length + 1) + 1 by omega, find_first (hr x List.mem_cons_self) (by omega) (by omega)]
      have := find_rest (s := s) (l := x :: xs) (by omega) (by omega) (by omega) hr xs.length 1 x (by simp; omega) (hr x List.mem_cons_self) K
      exact this
end Go.Proofs.Ytgekhkigeanajaa.P
