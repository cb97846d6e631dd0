/- An identifier's text by the program, digit by digit. Conditions: the ranges that each lemma names. -/
import Derived.Test.YtcimnghmkhdolaaIdentOfLib
namespace Go.Proofs.Ytcimnghmkhdolaa.P
open Go.RowKit Go.Proofs.YtcimnghmkhdolaaW.PrintWords Go.Proofs.YtcimnghmkhdolaaW.PrintLast Go.Proofs.YtcimnghmkhdolaaW.PrintMore
set_option linter.unusedVariables false
set_option linter.unusedSimpArgs false
def dig1 (d : Int) : ByteArray := hexs.extract d.toNat (d + 1).toNat
theorem dig1_data : ∀ i : Fin 16, (dig1 (i.1 : Int)).data.toList = [hexs.data.getD i.1 0] := by decide +kernel
theorem dig1_size : ∀ i : Fin 16, (dig1 (i.1 : Int)).size = 1 := by decide +kernel
theorem dig1_size' (d : Int) (d0 : 0 ≤ d) (d1 : d < 16) : (dig1 d).size = 1 := by
  obtain ⟨m, rfl⟩ := Int.eq_ofNat_of_zero_le d0
  exact dig1_size ⟨m, by omega⟩
def tx (n : Int) : Nat → ByteArray → ByteArray
  | 0, out => out
  | w + 1, out => tx n w (out ++ dig1 (n / 2 ^ (4 * w) % 16))
theorem and15n (n : Int) (n0 : 0 ≤ n) (n1 : n < 4294967296) : Go.bits .and .u32 n 15 = n % 16 := by
  have := and15 n
  rw [Int.emod_eq_of_lt n0 n1] at this
  exact this
theorem text_loop (e : Bool) (n : Int) (n0 : 0 ≤ n) (n1 : n < 4294967296) : ∀ (w : Nat) (out : ByteArray), out.size + w ≤ 8 → ∀ k, w + 1 ≤ k → ident_Text.l0 k out (4 * (w : Int) - 4) e n = some (tx n w out)
  | 0, out, _, k, hk => by
    obtain ⟨k, rfl⟩ : ∃ j, k = j + 1 := ⟨k - 1, by omega⟩
    rw [ident_Text.l0, if_neg (by omega)]
    rfl
  | w + 1, out, hs, k, hk => by
    obtain ⟨k, rfl⟩ : ∃ j, k = j + 1 := ⟨k - 1, by omega⟩
    have e4 : 4 * ((w + 1 : Nat) : Int) - 4 = ((4 * w : Nat) : Int) := by omega
    have q0 : 0 ≤ n / 2 ^ (4 * w) := Int.ediv_nonneg n0 (Int.le_of_lt (Int.pow_pos (by omega)))
    have q1 : n / 2 ^ (4 * w) ≤ n := Int.ediv_le_self _ n0
    have hsh : shr .u32 n (IntKind.u64.wrap ((4 * w : Nat) : Int)) = n / 2 ^ (4 * w) := by
      unfold shr
      rw [u64w, Int.emod_eq_of_lt (by omega) (by omega), Int.toNat_natCast, Nat.min_eq_left (by show 4 * w ≤ 32; omega)]
    obtain ⟨d, hd⟩ : ∃ d, n / 2 ^ (4 * w) % 16 = d := ⟨_, rfl⟩
    have d0 : 0 ≤ d := by omega
    have d1 : d < 16 := by omega
    have hd1 : (d + 1) % 4294967296 = d + 1 := by omega
    have sz := dig1_size' d d0 d1
    rw [ident_Text.l0, e4, hsh, and15n _ q0 (by omega), hd, hd1, if_pos (by omega), if_pos (by rw [u64w]; omega), if_pos d0, if_pos (by omega), if_pos (by omega)]
    rw [show (⟨#[48, 49, 50, 51, 52, 53, 54, 55, 56, 57, 97, 98, 99, 100, 101, 102]⟩ : ByteArray).extract d.toNat (d + 1).toNat = dig1 d from rfl, if_pos (by omega), i64w _ (by omega) (by omega)]
    have hw : ((4 * w : Nat) : Int) - 4 = 4 * (w : Int) - 4 := by omega
    rw [hw, text_loop e n n0 n1 w _ (by rw [ByteArray.size_append, sz]; omega) k (by omega), tx, hd]
def textV (e : Bool) (n : Int) : ByteArray := if rightV e n = true then (if e = true then tx n 8 ByteArray.empty else tx n 3 ByteArray.empty) else ByteArray.empty
theorem Text_eq (e : Bool) (n : Int) (n0 : 0 ≤ n) (n1 : n < 4294967296) (k : Nat) (hk : 12 ≤ k) : ident_Text.f k e n = some (textV e n) := by
  obtain ⟨k, rfl⟩ : ∃ j, k = j + 1 := ⟨k - 1, by omega⟩
  unfold ident_Text.f textV
  rw [Right_eq]
  simp only [Option.bind_some]
  cases rightV e n
  · rfl
  · rw [if_pos rfl, if_pos rfl]
    cases e
    · rw [if_neg (by decide), if_neg (by decide), ident_Text.j0, i64w (12 - 4) (by omega) (by omega)]
      exact text_loop false n n0 n1 3 ByteArray.empty (by decide) k (by omega)
    · rw [if_pos rfl, if_pos rfl, ident_Text.j0, i64w (32 - 4) (by omega) (by omega)]
      exact text_loop true n n0 n1 8 ByteArray.empty (by decide) k (by omega)
def hexL (n : Int) : Nat → List UInt8
  | 0 => []
  | w + 1 => hexs.data.getD (n / 2 ^ (4 * w) % 16).toNat 0 :: hexL n w
theorem tx_list (n : Int) : ∀ (w : Nat) (out : ByteArray), (tx n w out).data.toList = out.data.toList ++ hexL n w
  | 0, out => by simp [tx, hexL]
  | w + 1, out => by
    have hd : 0 ≤ n / 2 ^ (4 * w) % 16 ∧ n / 2 ^ (4 * w) % 16 < 16 := by omega
    obtain ⟨m, hm⟩ := Int.eq_ofNat_of_zero_le hd.1
    have := dig1_data ⟨m, by omega⟩
    rw [tx, tx_list n w, hexL, ByteArray.data_append, Array.toList_append, hm, this, List.append_assoc]
    rfl
end Go.Proofs.Ytcimnghmkhdolaa.P
