/- Twice the ticks, a greater jump, a small edge: the plain laws. Conditions: the ranges that each lemma names. -/
import Derived.Test.YtgekhkigeanajaaTimingLive
namespace Go.Proofs.Ytgekhkigeanajaa.P
open Go.RowKit Go.Proofs.YtgekhkigeanajaaW.PrintWords Go.Proofs.YtgekhkigeanajaaW.PrintLast Go.Proofs.YtgekhkigeanajaaW.PrintMore
set_option linter.unusedVariables false
set_option linter.unusedSimpArgs false
def Tm.twice (t : Tm) : Tm := ⟨2 * t.k, t.p, t.a, t.b, t.j⟩
def Tm.more (t : Tm) : Tm := ⟨t.k, t.p, t.a, t.b, t.j + 1⟩
theorem twice_sam {t : Tm} (h : t.rightB = true) (hu : t.twice.rightB = true) : t.twice.samV = t.samV := by
  unfold Tm.samV
  rw [if_pos h, if_pos hu]
  rfl
theorem twice_dri {t : Tm} (h : t.rightB = true) (hu : t.twice.rightB = true) : t.twice.driV = t.driV := by
  unfold Tm.driV
  rw [if_pos h, if_pos hu]
  rfl
theorem twice_bit {t : Tm} (h : t.rightB = true) (hu : t.twice.rightB = true) : t.twice.bitV = wrap64 (2 * t.bitV) := by
  have r := bit_range h
  unfold Tm.bitV
  rw [if_pos h, if_pos hu, wr_small _ (by omega) (by omega)]
  show 2 * t.k * t.q = 2 * (t.k * t.q)
  rw [Int.mul_assoc]
theorem more_dri {t : Tm} (h : t.rightB = true) (hv : t.more.rightB = true) : t.driV ≤ t.more.driV := by
  have r := Tm.right_of h
  have q := q_range h
  unfold Tm.driV
  rw [if_pos h, if_pos hv]
  unfold Tm.drift
  show mn _ (1000000 * t.j / (20 * t.q)) ≤ mn (1000000 * mn t.a t.b / (2 * (13 * t.q - t.b))) (1000000 * (t.j + 1) / (20 * t.q))
  have : 1000000 * t.j / (20 * t.q) ≤ 1000000 * (t.j + 1) / (20 * t.q) := Int.ediv_le_ediv (by omega) (by omega)
  generalize 1000000 * t.j / (20 * t.q) = y at this ⊢
  generalize 1000000 * (t.j + 1) / (20 * t.q) = z at this ⊢
  generalize 1000000 * mn t.a t.b / (2 * (13 * t.q - t.b)) = x
  unfold mn
  split <;> split <;> omega
theorem near_mov {t : Tm} (h : t.rightB = true) (l : Int) : t.movV (Int.tmod l (t.j + 1)) = Int.tmod l (t.j + 1) := by
  have r := Tm.right_of h
  have h1 : -t.j ≤ Int.tmod l (t.j + 1) := by
    by_cases h0 : 0 ≤ l
    · have := Int.tmod_nonneg (t.j + 1) h0
      omega
    · have e : Int.tmod l (t.j + 1) = -Int.tmod (-l) (t.j + 1) := by rw [Int.neg_tmod]; omega
      have := Int.tmod_lt_of_pos (-l) (show 0 < t.j + 1 by omega)
      omega
  have h2 : Int.tmod l (t.j + 1) ≤ t.j := by
    have := Int.tmod_lt_of_pos l (show 0 < t.j + 1 by omega)
    omega
  unfold Tm.movV
  rw [if_pos h, if_neg (by omega), if_neg (by omega)]
theorem not_bit {t : Tm} (h : t.rightB = false) : t.bitV = 0 := by
  unfold Tm.bitV
  rw [if_neg (by rw [h]; simp)]
end Go.Proofs.Ytgekhkigeanajaa.P
