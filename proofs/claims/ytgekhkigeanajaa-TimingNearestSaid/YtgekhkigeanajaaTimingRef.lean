/- All timings of so many ticks a bit, by the document: its list is the program's. Conditions: the ranges that each lemma names. -/
import Derived.Test.YtgekhkigeanajaaTimingFind2
namespace Go.Proofs.Ytgekhkigeanajaa.P
open Go.RowKit Go.Proofs.YtgekhkigeanajaaW.PrintWords Go.Proofs.YtgekhkigeanajaaW.PrintLast Go.Proofs.YtgekhkigeanajaaW.PrintMore
set_option linter.unusedVariables false
set_option linter.unusedSimpArgs false
theorem in_eq (n l h : Int) : bellbuoyref36_in.f n l h = some (decide (l ≤ n ∧ n ≤ h)) := by
  unfold bellbuoyref36_in.f
  by_cases h1 : n ≥ l <;> by_cases h2 : n ≤ h <;> simp [h1, h2]
theorem refRight_eq (k p a b j : Int) : bellbuoyref36_Right.f k p a b j = some (Tm.rightB ⟨k, p, a, b, j⟩) := by
  unfold bellbuoyref36_Right.f bellbuoyref36_quanta.f Tm.rightB
  simp only [in_eq, Option.bind_some]
  by_cases k1 : 1 ≤ k
  · by_cases k2 : k ≤ 1024
    · by_cases hp : 1 ≤ p ∧ p ≤ 8
      · by_cases ha : 1 ≤ a ∧ a ≤ 8
        · by_cases hb : 1 ≤ b ∧ b ≤ 8
          · have e1 : wrap64 (1 + p) = 1 + p := wr_small _ (by omega) (by omega)
            have e2 : wrap64 (1 + p + a) = 1 + p + a := wr_small _ (by omega) (by omega)
            have e3 : wrap64 (1 + p + a + b) = 1 + p + a + b := wr_small _ (by omega) (by omega)
            by_cases hj : 1 ≤ j ∧ j ≤ 4 <;> by_cases j1 : j ≤ a <;> by_cases j2 : j ≤ b <;> simp [k1, k2, hp, ha, hb, hj, j1, j2, e1, e2, e3]
          · simp [k1, k2, hp, ha, hb]
        · simp [k1, k2, hp, ha]
      · simp [k1, k2, hp]
    · simp [k1, k2]
  · simp [k1]
def Tm.S (t : Tm) : S23 := ⟨t.k, t.p, t.a, t.b, t.j⟩
def row3 (d q p a : Int) (js : List Int) : List Tm := (js.map fun j => (⟨d, p, a, q - 1 - p - a, j⟩ : Tm)).filter Tm.rightB
theorem row3_cons (d q p a j : Int) (js : List Int) : row3 d q p a (j :: js) = if Tm.rightB ⟨d, p, a, q - 1 - p - a, j⟩ = true then ⟨d, p, a, q - 1 - p - a, j⟩ :: row3 d q p a js else row3 d q p a js := by
  unfold row3
  rw [List.map_cons, List.filter_cons]
theorem row3_len (d q p a : Int) (js : List Int) : (row3 d q p a js).length ≤ js.length := by
  unfold row3
  exact Nat.le_trans (List.length_filter_le _ _) (by simp)
section
variable {bit q p a d : Int}
theorem l3_one (hq : 8 ≤ q ∧ q ≤ 25) (hp : 1 ≤ p ∧ p ≤ 8) (ha : 1 ≤ a ∧ a ≤ 8) (hd : wrap64 (Int.tdiv bit q) = d) (j : Int) (hj : 1 ≤ j ∧ j ≤ 4) (k : Nat) (acc : List S23) (hl : acc.length ≤ 1000000) :
    bellbuoyref36_list.l3 (k + 1) bit acc q p a j = bellbuoyref36_list.l3 k bit (acc ++ (row3 d q p a [j]).map Tm.S) q p a (j + 1) := by
  rw [bellbuoyref36_list.l3]
  rw [if_pos hj.2, if_neg (by omega), hd, wr_small (q - 1) (by omega) (by omega), wr_small (q - 1 - p) (by omega) (by omega), wr_small (q - 1 - p - a) (by omega) (by omega), wr_small (j + 1) (by omega) (by omega), refRight_eq]
  simp only [Option.bind_some]
  rw [row3_cons]
  cases h : Tm.rightB ⟨d, p, a, q - 1 - p - a, j⟩
  · rw [if_neg (by decide), if_neg (by decide)]
    simp [row3]
  · rw [if_pos rfl, if_pos rfl, if_pos (by omega)]
    simp [row3, Tm.S]
theorem l3_end (hp : 1 ≤ a ∧ a ≤ 8) (k : Nat) (acc : List S23) : bellbuoyref36_list.l3 (k + 1) bit acc q p a 5 = bellbuoyref36_list.l2 k bit acc q p (a + 1) := by
  rw [bellbuoyref36_list.l3]
  rw [if_neg (by decide), wr_small (a + 1) (by omega) (by omega)]
theorem row3_append (xs ys : List Int) : row3 d q p a (xs ++ ys) = row3 d q p a xs ++ row3 d q p a ys := by
  unfold row3
  rw [List.map_append, List.filter_append]
theorem l3_all (hq : 8 ≤ q ∧ q ≤ 25) (hp : 1 ≤ p ∧ p ≤ 8) (ha : 1 ≤ a ∧ a ≤ 8) (hd : wrap64 (Int.tdiv bit q) = d) (k : Nat) (acc : List S23) (hl : acc.length + 4 ≤ 1000000) :
    bellbuoyref36_list.l3 (k + 5) bit acc q p a 1 = bellbuoyref36_list.l2 k bit (acc ++ (row3 d q p a [1, 2, 3, 4]).map Tm.S) q p (a + 1) := by
  have n1 : ∀ j, ((row3 d q p a [j]).map Tm.S).length ≤ 1 := fun j => by rw [List.length_map]; exact row3_len _ _ _ _ _
  rw [show k + 5 = (k + 4) + 1 from rfl, l3_one hq hp ha hd 1 (by decide) _ _ (by omega)]
  rw [show k + 4 = (k + 3) + 1 from rfl, l3_one hq hp ha hd (1 + 1) (by decide) _ _ (by rw [List.length_append]; have := n1 1; omega)]
  rw [show k + 3 = (k + 2) + 1 from rfl, l3_one hq hp ha hd (1 + 1 + 1) (by decide) _ _ (by rw [List.length_append, List.length_append]; have := n1 1; have := n1 (1 + 1); omega)]
  rw [show k + 2 = (k + 1) + 1 from rfl, l3_one hq hp ha hd (1 + 1 + 1 + 1) (by decide) _ _ (by rw [List.length_append, List.length_append, List.length_append]; have := n1 1; have := n1 (1 + 1); have := n1 (1 + 1 + 1); omega)]
  rw [show (1 + 1 + 1 + 1 + 1 : Int) = 5 from rfl, l3_end ha]
  congr 1
  rw [show ([1, 2, 3, 4] : List Int) = [1] ++ ([1 + 1] ++ ([1 + 1 + 1] ++ [1 + 1 + 1 + 1])) from rfl, row3_append, row3_append, row3_append, List.map_append, List.map_append, List.map_append]
  simp only [List.append_assoc]
def row2 (d q p : Int) : Nat → List Tm
  | 0 => []
  | m + 1 => row3 d q p (8 - (m : Int)) [1, 2, 3, 4] ++ row2 d q p m
theorem row2_len (d q p : Int) : ∀ m, (row2 d q p m).length ≤ 4 * m
  | 0 => Nat.le_refl _
  | m + 1 => by
    have := row2_len d q p m
    have := row3_len d q p (8 - (m : Int)) [1, 2, 3, 4]
    unfold row2
    rw [List.length_append]
    simp only [List.length_cons, List.length_nil] at this
    omega
theorem l2_all (hq : 8 ≤ q ∧ q ≤ 25) (hp : 1 ≤ p ∧ p ≤ 8) (hd : wrap64 (Int.tdiv bit q) = d) : ∀ (m : Nat), m ≤ 8 → ∀ (k : Nat) (acc : List S23), acc.length + 4 * m ≤ 1000000 →
    bellbuoyref36_list.l2 (k + 6 * m + 1) bit acc q p (9 - (m : Int)) = bellbuoyref36_list.l1 k bit (acc ++ (row2 d q p m).map Tm.S) q (p + 1)
  | 0, _, k, acc, _ => by
    rw [show k + 6 * 0 + 1 = k + 1 from rfl, bellbuoyref36_list.l2]
    rw [if_neg (by omega), wr_small (p + 1) (by omega) (by omega)]
    simp [row2]
  | m + 1, hm, k, acc, hl => by
    rw [show k + 6 * (m + 1) + 1 = (k + 6 * m + 1 + 5) + 1 by omega, bellbuoyref36_list.l2]
    rw [if_pos (by omega), show (9 - ((m + 1 : Nat) : Int)) = 8 - (m : Int) by omega, l3_all hq hp (by omega) hd _ _ (by omega), show (8 - (m : Int) + 1) = 9 - (m : Int) by omega]
    rw [l2_all hq hp hd m (by omega) k _ (by rw [List.length_append, List.length_map]; have := row3_len d q p (8 - (m : Int)) [1, 2, 3, 4]; simp only [List.length_cons, List.length_nil] at this; omega)]
    congr 1
    simp [row2]
def row1 (d q : Int) : Nat → List Tm
  | 0 => []
  | m + 1 => row2 d q (8 - (m : Int)) 8 ++ row1 d q m
theorem row1_len (d q : Int) : ∀ m, (row1 d q m).length ≤ 32 * m
  | 0 => Nat.le_refl _
  | m + 1 => by
    have := row1_len d q m
    have := row2_len d q (8 - (m : Int)) 8
    unfold row1
    rw [List.length_append]
    omega
theorem l1_all (hq : 8 ≤ q ∧ q ≤ 25) (hd : wrap64 (Int.tdiv bit q) = d) : ∀ (m : Nat), m ≤ 8 → ∀ (k : Nat) (acc : List S23), acc.length + 32 * m ≤ 1000000 →
    bellbuoyref36_list.l1 (k + 50 * m + 1) bit acc q (9 - (m : Int)) = bellbuoyref36_list.l0 k bit (acc ++ (row1 d q m).map Tm.S) (q - 1)
  | 0, _, k, acc, _ => by
    rw [show k + 50 * 0 + 1 = k + 1 from rfl, bellbuoyref36_list.l1]
    rw [if_neg (by omega), wr_small (q - 1) (by omega) (by omega)]
    simp [row1]
  | m + 1, hm, k, acc, hl => by
    rw [show k + 50 * (m + 1) + 1 = (k + 50 * m + 1 + 6 * 8 + 1) + 1 by omega, bellbuoyref36_list.l1]
    rw [if_pos (by omega), show (9 - ((m + 1 : Nat) : Int)) = 8 - (m : Int) by omega]
    have h := l2_all (p := 8 - (m : Int)) hq (by omega) hd 8 (Nat.le_refl _) (k + 50 * m + 1) acc (by omega)
    rw [show (9 - ((8 : Nat) : Int)) = 1 from rfl] at h
    rw [h, show (8 - (m : Int) + 1) = 9 - (m : Int) by omega]
    rw [l1_all hq hd m (by omega) k _ (by rw [List.length_append, List.length_map]; have := row2_len d q (8 - (m : Int)) 8; omega)]
    congr 1
    simp [row1]
end
def rowQ (bit q : Int) : List Tm := if bit < 1 then [] else if Int.tmod bit q = 0 then (if Int.tdiv bit q > 1024 then [] else row1 (Int.tdiv bit q) q 8) else []
theorem l0_one {bit q : Int} (hq : 8 ≤ q ∧ q ≤ 25) (b64 : -9223372036854775808 ≤ bit ∧ bit ≤ 9223372036854775807) (acc : List S23) (hl : acc.length + 256 ≤ 1000000) : ∃ K, ∀ k, bellbuoyref36_list.l0 (k + K) bit acc q = bellbuoyref36_list.l0 k bit (acc ++ (rowQ bit q).map Tm.S) (q - 1) := by
  have skip : ∀ k, bellbuoyref36_list.j1 (k + 1) bit acc q true = bellbuoyref36_list.l0 k bit acc (q - 1) := fun k => by
    rw [bellbuoyref36_list.j1, if_pos rfl, wr_small (q - 1) (by omega) (by omega)]
  unfold rowQ
  by_cases h1 : bit < 1
  · refine ⟨2, fun k => ?_⟩
    rw [show k + 2 = (k + 1) + 1 from rfl, bellbuoyref36_list.l0, if_pos (by omega), if_pos h1, skip, if_pos h1]
    simp
  · rw [if_neg h1]
    by_cases h2 : Int.tmod bit q = 0
    · rw [if_pos h2]
      have dv := tdiv_range (by omega : 1 ≤ bit) hq.1
      have hd : wrap64 (Int.tdiv bit q) = Int.tdiv bit q := i64w _ (by omega) (by omega)
      by_cases h3 : Int.tdiv bit q > 1024
      · refine ⟨2, fun k => ?_⟩
        rw [show k + 2 = (k + 1) + 1 from rfl, bellbuoyref36_list.l0, if_pos (by omega), if_neg h1, if_neg (by omega), if_pos h2, hd, decide_eq_true h3, skip, if_pos h3]
        simp
      · refine ⟨2 + (50 * 8 + 1), fun k => ?_⟩
        rw [show k + (2 + (50 * 8 + 1)) = (k + 50 * 8 + 1 + 1) + 1 from rfl, bellbuoyref36_list.l0, if_pos (by omega), if_neg h1, if_neg (by omega), if_pos h2, hd, decide_eq_false h3, bellbuoyref36_list.j1, if_neg (by decide), if_neg h3]
        have h := l1_all hq hd 8 (Nat.le_refl _) k acc (by omega)
        rw [show (9 - ((8 : Nat) : Int)) = 1 from rfl] at h
        exact h
    · rw [if_neg h2]
      refine ⟨2, fun k => ?_⟩
      rw [show k + 2 = (k + 1) + 1 from rfl, bellbuoyref36_list.l0, if_pos (by omega), if_neg h1, if_neg (by omega), if_neg h2, skip]
      simp
theorem rowQ_len (bit q : Int) : (rowQ bit q).length ≤ 256 := by
  unfold rowQ
  repeat' split
  all_goals first | exact row1_len _ _ 8 | exact Nat.zero_le _
def rowTo (bit : Int) : Nat → List Tm
  | 0 => []
  | m + 1 => rowTo bit m ++ rowQ bit (25 - (m : Int))
theorem rowTo_len (bit : Int) : ∀ m, (rowTo bit m).length ≤ 256 * m
  | 0 => Nat.le_refl _
  | m + 1 => by
    have := rowTo_len bit m
    have := rowQ_len bit (25 - (m : Int))
    unfold rowTo
    rw [List.length_append]
    omega
theorem l0_to {bit : Int} (b64 : -9223372036854775808 ≤ bit ∧ bit ≤ 9223372036854775807) : ∀ (m : Nat), m ≤ 18 → ∃ K, ∀ k, bellbuoyref36_list.l0 (k + K) bit [] 25 = bellbuoyref36_list.l0 k bit ((rowTo bit m).map Tm.S) (25 - (m : Int))
  | 0, _ => ⟨0, fun k => rfl⟩
  | m + 1, hm => by
    obtain ⟨K, h⟩ := l0_to b64 m (by omega)
    have hl := rowTo_len bit m
    obtain ⟨K2, h2⟩ := l0_one (bit := bit) (q := 25 - (m : Int)) (by omega) b64 ((rowTo bit m).map Tm.S) (by rw [List.length_map]; omega)
    refine ⟨K2 + K, fun k => ?_⟩
    rw [← Nat.add_assoc, h, h2]
    rw [show rowTo bit (m + 1) = rowTo bit m ++ rowQ bit (25 - (m : Int)) from rfl, List.map_append, show (25 - (m : Int) - 1) = 25 - ((m + 1 : Nat) : Int) by omega]
theorem list_rows {bit : Int} (b64 : -9223372036854775808 ≤ bit ∧ bit ≤ 9223372036854775807) : ∃ K, bellbuoyref36_list.f K bit = some ((rowTo bit 18).map Tm.S) := by
  obtain ⟨K, h⟩ := l0_to b64 18 (Nat.le_refl _)
  refine ⟨1 + K, ?_⟩
  unfold bellbuoyref36_list.f
  rw [h, bellbuoyref36_list.l0, if_neg (by decide)]
end Go.Proofs.Ytgekhkigeanajaa.P
