/- The reference's text is the program's. Conditions: the range of an identifier. -/
import Derived.Test.YtcimnghmkhdolaaIdentRefLib
namespace Go.Proofs.Ytcimnghmkhdolaa.P
open Go.RowKit Go.Proofs.YtcimnghmkhdolaaW.PrintWords Go.Proofs.YtcimnghmkhdolaaW.PrintLast Go.Proofs.YtcimnghmkhdolaaW.PrintMore
set_option linter.unusedVariables false
set_option linter.unusedSimpArgs false
theorem bytes_ext {t s : ByteArray} (h : t.data.toList = s.data.toList) : t = s := by
  cases t; cases s
  simp at h
  rw [h]
theorem refText_loop (e : Bool) (n : Int) (n0 : 0 ≤ n) (n1 : n < 4294967296) (W : Nat) (hW : W ≤ 8) : ∀ (m i : Nat), i + m = W → ∀ (out : ByteArray), out.data.toList = hexL n i → ∀ k, m + 1 ≤ k → ∃ res, bellbuoyref05_Text.l0 k (W : Int) out (i : Int) e n = some res ∧ res.data.toList = hexL n W
  | 0, i, hi, out, ho, k, hk => by
    obtain ⟨k, rfl⟩ : ∃ j, k = j + 1 := ⟨k - 1, by omega⟩
    obtain rfl : i = W := by omega
    exact ⟨out, by rw [bellbuoyref05_Text.l0, if_neg (by omega)], ho⟩
  | m + 1, i, hi, out, ho, k, hk => by
    obtain ⟨k, rfl⟩ : ∃ j, k = j + 1 := ⟨k - 1, by omega⟩
    have q0 : 0 ≤ n / 2 ^ (4 * i) := Int.ediv_nonneg n0 (Int.le_of_lt (Int.pow_pos (by omega)))
    have e1 : (i : Int) + 1 = ((i + 1 : Nat) : Int) := rfl
    have e4 : 4 * (i : Int) = ((4 * i : Nat) : Int) := by omega
    have hsh : shr .u32 n (IntKind.u64.wrap ((4 * i : Nat) : Int)) = n / 2 ^ (4 * i) := by
      unfold shr
      rw [u64w, Int.emod_eq_of_lt (by omega) (by omega), Int.toNat_natCast, Nat.min_eq_left (by show 4 * i ≤ 32; omega)]
    obtain ⟨d, hd⟩ : ∃ d, n / 2 ^ (4 * i) % 16 = d := ⟨_, rfl⟩
    have htm : Int.tmod (n / 2 ^ (4 * i)) 16 = d := by rw [Int.tmod_eq_emod_of_nonneg q0, hd]
    have d0 : 0 ≤ d := by omega
    have d1 : d < 16 := by omega
    have hd1 : (d + 1) % 4294967296 = d + 1 := by omega
    have sz := dig1_size' d d0 d1
    have so : out.size = i := by rw [size_list, ho, hexL_len]
    have hl : (dig1 d ++ out).data.toList = hexL n (i + 1) := by
      obtain ⟨x, rfl⟩ := Int.eq_ofNat_of_zero_le d0
      have := dig1_data ⟨x, by omega⟩
      rw [ByteArray.data_append, Array.toList_append, this, ho, hexL, hd]
      rfl
    rw [bellbuoyref05_Text.l0, if_pos (by omega), i64w (4 * (i : Int)) (by omega) (by omega), e4, hsh, htm, hd1, if_pos (by rw [u64w]; omega), if_pos d0, if_pos (by omega), if_pos (by omega)]
    rw [show (⟨#[48, 49, 50, 51, 52, 53, 54, 55, 56, 57, 97, 98, 99, 100, 101, 102]⟩ : ByteArray).extract d.toNat (d + 1).toNat = dig1 d from rfl, if_pos (by omega), i64w _ (by omega) (by omega), e1]
    exact refText_loop e n n0 n1 W hW m (i + 1) (by omega) _ hl k (by omega)
theorem refText_eq (e : Bool) (n : Int) (n0 : 0 ≤ n) (n1 : n < 4294967296) (k : Nat) (hk : 12 ≤ k) : bellbuoyref05_Text.f k e n = some (textV e n) := by
  obtain ⟨k, rfl⟩ : ∃ j, k = j + 1 := ⟨k - 1, by omega⟩
  unfold bellbuoyref05_Text.f textV
  rw [refRight_eq e n n0]
  simp only [Option.bind_some]
  cases rightV e n
  · rfl
  · rw [if_pos rfl, if_pos rfl]
    cases e
    · obtain ⟨res, h1, h2⟩ := refText_loop false n n0 n1 3 (by omega) 3 0 (by omega) ByteArray.empty rfl k (by omega)
      rw [if_neg (by decide), if_neg (by decide), bellbuoyref05_Text.j0]
      refine h1.trans ?_
      rw [bytes_ext (t := res) (s := tx n 3 ByteArray.empty) (by rw [h2, tx_list]; rfl)]
    · obtain ⟨res, h1, h2⟩ := refText_loop true n n0 n1 8 (by omega) 8 0 (by omega) ByteArray.empty rfl k (by omega)
      rw [if_pos rfl, if_pos rfl, bellbuoyref05_Text.j0]
      refine h1.trans ?_
      rw [bytes_ext (t := res) (s := tx n 8 ByteArray.empty) (by rw [h2, tx_list]; rfl)]
end Go.Proofs.Ytcimnghmkhdolaa.P
