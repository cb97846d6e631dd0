/- The reference reads a text as the program does; equal rows of bits are told equal. No condition. -/
import Derived.Test.YtcimnghmkhdolaaIdentOfKeyLib
namespace Go.Proofs.Ytcimnghmkhdolaa.P
open Go.RowKit Go.Proofs.YtcimnghmkhdolaaW.PrintWords Go.Proofs.YtcimnghmkhdolaaW.PrintLast Go.Proofs.YtcimnghmkhdolaaW.PrintMore
set_option linter.unusedVariables false
set_option linter.unusedSimpArgs false
theorem refDigit_eq (c : Int) (k : Nat) : bellbuoyref05_digit.f (k + 1) c = some (if 0 ≤ digV c then digV c else 16) := by
  unfold bellbuoyref05_digit.f digV
  by_cases h1 : c ≥ 48
  · rw [if_pos h1, bellbuoyref05_digit.j0]
    by_cases h2 : c ≤ 57
    · rw [if_pos (decide_eq_true h2), if_pos (show 48 ≤ c ∧ c ≤ 57 by omega), if_pos (by omega)]
      congr 1; omega
    · rw [if_neg (by rw [decide_eq_true_eq]; exact h2), if_neg (show ¬ (48 ≤ c ∧ c ≤ 57) by omega)]
      by_cases h3 : c ≥ 97
      · rw [if_pos h3]
        by_cases h4 : c ≤ 102
        · rw [if_pos h4, if_pos (show 97 ≤ c ∧ c ≤ 102 by omega), if_pos (by omega)]
          congr 1; omega
        · rw [if_neg h4, if_neg (show ¬ (97 ≤ c ∧ c ≤ 102) by omega)]; rfl
      · rw [if_neg h3, if_neg (show ¬ (97 ≤ c ∧ c ≤ 102) by omega)]; rfl
  · rw [if_neg h1, bellbuoyref05_digit.j0, if_neg (by decide), if_neg (by omega), if_neg (show ¬ (48 ≤ c ∧ c ≤ 57) by omega), if_neg (show ¬ (97 ≤ c ∧ c ≤ 102) by omega)]
    rfl
theorem refParse_loop (s : ByteArray) (hb : ((s.size : Int) != 3 && (s.size : Int) != 8) = false) (hz : s.size ≤ 8) : ∀ (m i : Nat), i + m = s.size → hexOk s i = true → ∀ k, m + 2 ≤ k → bellbuoyref05_Parse.l0 k s (i : Int) ((s.size : Int) == 8) (hexV s i) = some (parseV s)
  | 0, i, hi, hok, k, hk => by
    obtain ⟨k, rfl⟩ : ∃ j, k = j + 1 := ⟨k - 1, by omega⟩
    obtain rfl : i = s.size := by omega
    rw [bellbuoyref05_Parse.l0, if_neg (by omega), refRight_eq _ _ (hexV_range s _).1, parse_good s (by rw [hb, hok]; rfl)]
    simp only [Option.bind_some]
    split <;> rfl
  | m + 1, i, hi, hok, k, hk => by
    obtain ⟨k, rfl⟩ : ∃ j, k = j + 2 := ⟨k - 2, by omega⟩
    have e1 : (i : Int) + 1 = ((i + 1 : Nat) : Int) := rfl
    rw [bellbuoyref05_Parse.l0, if_pos (by omega), if_pos (by omega), refDigit_eq]
    simp only [Option.bind_some]
    by_cases hd : 0 ≤ digV (bt s (i : Int))
    · have hr := digV_range (bt s (i : Int))
      rw [if_pos hd, if_neg (by omega), i64w _ (by omega) (by omega), e1]
      have hv : ((hexV s i * 16 % 4294967296) + digV (bt s (i : Int))) % 4294967296 = hexV s (i + 1) := by
        rw [hexV, putN]
        omega
      rw [hv]
      exact refParse_loop s hb hz m (i + 1) (by omega) (by show (hexOk s i && decide (0 ≤ digV (bt s i))) = true; rw [hok, decide_eq_true hd]; rfl) (k + 1) (by omega)
    · rw [if_neg hd, if_pos rfl, parse_bad s (i + 1) (by omega) (by
        have : hexOk s (i + 1) = false := by show (hexOk s i && decide (0 ≤ digV (bt s i))) = false; rw [decide_eq_false hd, Bool.and_false]
        rw [this]; simp)]
theorem refParse_eq (s : ByteArray) (k : Nat) (hk : 20 ≤ k) : bellbuoyref05_Parse.f k s = some (parseV s) := by
  obtain ⟨k, rfl⟩ : ∃ j, k = j + 1 := ⟨k - 1, by omega⟩
  unfold bellbuoyref05_Parse.f
  by_cases h3 : (s.size : Int) = 3
  · rw [if_pos h3, bellbuoyref05_Parse.j0, if_neg (by decide)]
    exact refParse_loop s (by rw [h3]; rfl) (by omega) s.size 0 (by omega) rfl k (by omega)
  · rw [if_neg h3, bellbuoyref05_Parse.j0]
    by_cases h8 : (s.size : Int) = 8
    · rw [if_neg (by rw [h8]; decide)]
      exact refParse_loop s (by rw [h8]; rfl) (by omega) s.size 0 (by omega) rfl k (by omega)
    · rw [if_pos (by rw [bne_iff_ne]; exact h8), parse_bad s 0 (by omega) (by rw [bne_iff_ne.mpr h3, bne_iff_ne.mpr h8]; rfl)]
theorem bytes_loop (l : List Int) (hl : l.length ≤ 100) : ∀ (m i : Nat), i + m = l.length → ∀ k, m + 1 ≤ k → bellbuoyref02_Bytes.l0 k l l (i : Int) = some true
  | 0, i, hi, k, hk => by
    obtain ⟨k, rfl⟩ : ∃ j, k = j + 1 := ⟨k - 1, by omega⟩
    rw [bellbuoyref02_Bytes.l0, if_neg (by omega)]
  | m + 1, i, hi, k, hk => by
    obtain ⟨k, rfl⟩ : ∃ j, k = j + 1 := ⟨k - 1, by omega⟩
    have e1 : (i : Int) + 1 = ((i + 1 : Nat) : Int) := rfl
    rw [bellbuoyref02_Bytes.l0, if_pos (by omega), if_pos (by omega), if_pos (by omega), if_pos rfl, i64w _ (by omega) (by omega), e1]
    exact bytes_loop l hl m (i + 1) (by omega) k (by omega)
theorem bytes_same (l : List Int) (hl : l.length ≤ 100) (k : Nat) (hk : 102 ≤ k) : bellbuoyref02_Bytes.f k l l = some true := by
  unfold bellbuoyref02_Bytes.f
  rw [if_pos rfl]
  exact bytes_loop l hl l.length 0 (by omega) k (by omega)
end Go.Proofs.Ytcimnghmkhdolaa.P
