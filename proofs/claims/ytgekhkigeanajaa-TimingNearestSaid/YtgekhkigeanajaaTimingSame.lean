/- All timings of so many ticks a bit: the program's and the document's list are one. Conditions: the ranges that each lemma names. -/
import Derived.Test.YtgekhkigeanajaaTimingRef
namespace Go.Proofs.Ytgekhkigeanajaa.P
open Go.RowKit Go.Proofs.YtgekhkigeanajaaW.PrintWords Go.Proofs.YtgekhkigeanajaaW.PrintLast Go.Proofs.YtgekhkigeanajaaW.PrintMore
set_option linter.unusedVariables false
set_option linter.unusedSimpArgs false
def raw3 (d q p a : Int) : List Tm := [1, 2, 3, 4].map fun j => (⟨d, p, a, q - 1 - p - a, j⟩ : Tm)
def raw2 (d q p : Int) : Nat → List Tm
  | 0 => []
  | m + 1 => raw3 d q p (8 - (m : Int)) ++ raw2 d q p m
def raw1 (d q : Int) : Nat → List Tm
  | 0 => []
  | m + 1 => raw2 d q (8 - (m : Int)) 8 ++ raw1 d q m
theorem row2_raw (d q p : Int) : ∀ m, row2 d q p m = (raw2 d q p m).filter Tm.rightB
  | 0 => rfl
  | m + 1 => by
    unfold row2 raw2
    rw [List.filter_append, row2_raw d q p m]
    rfl
theorem row1_raw (d q : Int) : ∀ m, row1 d q m = (raw1 d q m).filter Tm.rightB
  | 0 => rfl
  | m + 1 => by
    unfold row1 raw1
    rw [List.filter_append, row1_raw d q m, row2_raw]
def tickAt (d q : Int) (i : Nat) : Tm := ⟨d, (i : Int) / 32 + 1, (i : Int) / 4 % 8 + 1, q - 1 - ((i : Int) / 32 + 1) - ((i : Int) / 4 % 8 + 1), (i : Int) % 4 + 1⟩
def q3 (d q p a : Int) (s : Nat) : List Tm := (List.range' s 4).map (tickAt d q)
theorem raw3_at (d q : Int) (x y : Nat) (hx : x < 8) (hy : y < 8) : raw3 d q ((x : Int) + 1) ((y : Int) + 1) = (List.range' (x * 32 + y * 4) 4).map (tickAt d q) := by
  have key : ∀ j : Nat, j < 4 → tickAt d q (x * 32 + y * 4 + j) = ⟨d, (x : Int) + 1, (y : Int) + 1, q - 1 - ((x : Int) + 1) - ((y : Int) + 1), (j : Int) + 1⟩ := fun j hj => by
    unfold tickAt
    have e1 : (((x * 32 + y * 4 + j : Nat) : Int)) / 32 = (x : Int) := by omega
    have e2 : (((x * 32 + y * 4 + j : Nat) : Int)) / 4 % 8 = (y : Int) := by omega
    have e3 : (((x * 32 + y * 4 + j : Nat) : Int)) % 4 = (j : Int) := by omega
    rw [e1, e2, e3]
  have k0 := key 0 (by decide)
  have k1 := key 1 (by decide)
  have k2 := key 2 (by decide)
  have k3 := key 3 (by decide)
  rw [Nat.add_zero] at k0
  simp only [List.range'_succ, List.range'_zero, List.map_cons, List.map_nil, Nat.add_assoc, Nat.reduceAdd, raw3] at *
  rw [k0, k1, k2, k3]
  rfl
theorem raw2_at (d q : Int) (x : Nat) (hx : x < 8) : ∀ m, m ≤ 8 → raw2 d q ((x : Int) + 1) m = (List.range' (x * 32 + (8 - m) * 4) (m * 4)).map (tickAt d q)
  | 0, _ => rfl
  | m + 1, hm => by
    unfold raw2
    rw [raw2_at d q x hx m (by omega), show (8 - (m : Int)) = ((7 - m : Nat) : Int) + 1 by omega, raw3_at d q x (7 - m) hx (by omega), ← List.map_append]
    congr 1
    rw [show 8 - (m + 1) = 7 - m by omega, show (m + 1) * 4 = 4 + m * 4 by omega, show x * 32 + (8 - m) * 4 = x * 32 + (7 - m) * 4 + 1 * 4 by omega]
    exact List.range'_append
theorem raw1_at (d q : Int) : ∀ m, m ≤ 8 → raw1 d q m = (List.range' ((8 - m) * 32) (m * 32)).map (tickAt d q)
  | 0, _ => rfl
  | m + 1, hm => by
    unfold raw1
    rw [raw1_at d q m (by omega), show (8 - (m : Int)) = ((7 - m : Nat) : Int) + 1 by omega, raw2_at d q (7 - m) (by omega) 8 (Nat.le_refl _), ← List.map_append]
    congr 1
    rw [show 8 - (m + 1) = 7 - m by omega, show (m + 1) * 32 = 8 * 4 + m * 32 by omega, show (8 - m) * 32 = (7 - m) * 32 + (8 - 8) * 4 + 1 * (8 * 4) by omega]
    exact List.range'_append
theorem raw_all (d q : Int) : raw1 d q 8 = (List.range 256).map (tickAt d q) := by
  rw [raw1_at d q 8 (Nat.le_refl _), List.range_eq_range']
theorem tickQ_at (bit q : Int) (i : Nat) : tickQ bit q (shapeAt q i) = tickAt (Int.tdiv bit q) q i := rfl
theorem mapQ_right {bit q : Int} (h : Int.tmod bit q = 0) : mapQ bit q (shL q 256) = ((List.range 256).map (tickAt (Int.tdiv bit q) q)).filter Tm.rightB := by
  have e1 : (List.range 256).map (tickAt (Int.tdiv bit q) q) = ((List.range 256).map (shapeAt q)).map (tickQ bit q) := by
    rw [List.map_map]
    rfl
  rw [e1, List.filter_map]
  unfold mapQ shL
  rw [List.filter_filter]
  congr 1
  refine List.filter_congr fun x hx => ?_
  obtain ⟨i, _, rfl⟩ := List.mem_map.1 hx
  unfold okQ
  rw [h]
  have hT : ((0 : Int) == 0) = true := rfl
  rw [hT, Bool.true_and, Function.comp]
  cases hr : (tickQ bit q (shapeAt q i)).rightB with
  | false => rfl
  | true =>
    have := Tm.right_of hr
    rw [Bool.true_and]
    refine decide_eq_true ?_
    simp only [tickQ, shapeAt] at this ⊢
    omega
theorem mapQ_none {bit q : Int} (h : Int.tmod bit q = 0 → 1024 < Int.tdiv bit q) : mapQ bit q (shL q 256) = [] := by
  unfold mapQ
  rw [List.map_eq_nil_iff, List.filter_eq_nil_iff]
  intro x hx
  unfold okQ
  by_cases h0 : Int.tmod bit q = 0
  · have h1 := h h0
    rw [h0]
    intro hr
    have hr' : (tickQ bit q x).rightB = true := hr
    have := Tm.right_of hr'
    simp only [tickQ] at this
    omega
  · have : (Int.tmod bit q == 0) = false := beq_eq_false_iff_ne.mpr h0
    rw [this, Bool.false_and]
    decide
theorem rowQ_eq {bit q : Int} (hb : 1 ≤ bit) : rowQ bit q = mapQ bit q (shL q 256) := by
  unfold rowQ
  rw [if_neg (by omega)]
  by_cases h : Int.tmod bit q = 0
  · rw [if_pos h]
    by_cases h2 : Int.tdiv bit q > 1024
    · rw [if_pos h2, mapQ_none (fun _ => h2)]
    · rw [if_neg h2, mapQ_right h, row1_raw, raw_all]
  · rw [if_neg h, mapQ_none (fun e => absurd e h)]
theorem rowTo_eq {bit : Int} (hb : 1 ≤ bit) : ∀ m, rowTo bit m = allTo bit m
  | 0 => rfl
  | m + 1 => by
    unfold rowTo allTo
    rw [rowTo_eq hb m, rowQ_eq hb]
theorem rowTo_nil {bit : Int} (hb : bit < 1) : ∀ m, rowTo bit m = []
  | 0 => rfl
  | m + 1 => by
    unfold rowTo
    rw [rowTo_nil hb m]
    unfold rowQ
    rw [if_pos hb]
    rfl
theorem list_same {bit : Int} (b64 : -9223372036854775808 ≤ bit ∧ bit ≤ 9223372036854775807) : ∃ K, bellbuoyref36_list.f K bit = some ((allL bit).map Tm.S) := by
  obtain ⟨K, h⟩ := list_rows b64
  refine ⟨K, h.trans ?_⟩
  unfold allL
  by_cases hb : 1 ≤ bit
  · rw [if_pos hb, rowTo_eq hb]
  · rw [if_neg hb, rowTo_nil (by omega)]
theorem all_same {bit : Int} (b64 : -9223372036854775808 ≤ bit ∧ bit ≤ 9223372036854775807) : ∃ K, bellbuoyref36_All.f K bit = some ((allL bit).length : Int) := by
  obtain ⟨K, h⟩ := list_same b64
  refine ⟨K, ?_⟩
  unfold bellbuoyref36_All.f
  rw [h]
  simp
end Go.Proofs.Ytgekhkigeanajaa.P
