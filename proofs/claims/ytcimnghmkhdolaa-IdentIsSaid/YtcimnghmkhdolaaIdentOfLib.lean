/- What a key is of: layer 5's four candidates. Conditions: the ranges that each lemma names. -/
import Derived.Test.YtcimnghmkhdolaaPx10
import Derived.Test.YtcimnghmkhdolaaIdentStrandLib
namespace Go.Proofs.Ytcimnghmkhdolaa.P
open Go.RowKit Go.Proofs.YtcimnghmkhdolaaW.PrintWords Go.Proofs.YtcimnghmkhdolaaW.PrintLast Go.Proofs.YtcimnghmkhdolaaW.PrintMore
set_option linter.unusedVariables false
set_option linter.unusedSimpArgs false
def keyF (e : Bool) (n : Int) (r : Bool) : Int := if rightV e n = true then keyV e n r else 0
theorem KeyF_eq (e : Bool) (n : Int) (r : Bool) (n0 : 0 ≤ n) : ident_Key.f e n r = some (keyF e n r) := by
  unfold keyF
  cases h : rightV e n
  · unfold ident_Key.f
    rw [Right_eq, h]
    rfl
  · rw [Key_eq e n r n0 h]
    rfl
def ofC (x : Int) : Int := x / 2097152 * 262144 + x % 2097152 / 2 % 262144
theorem and21 (n : Int) (n0 : 0 ≤ n) (n1 : n < 4294967296) : Go.bits .and .u32 n 2097151 = n % 2097152 := by
  have h : (BitVec.ofInt 32 2097151).toNat = 2 ^ 21 - 1 := by decide
  have key : (BitVec.ofInt 32 n &&& BitVec.ofInt 32 2097151).toNat = (n % ((2 ^ 32 : Nat) : Int)).toNat % 2 ^ 21 := by
    rw [BitVec.toNat_and, BitVec.toNat_ofInt, h, Nat.and_two_pow_sub_one_eq_mod]
  show IntKind.u32.wrap ((BitVec.ofInt 32 n &&& BitVec.ofInt 32 2097151).toNat : Nat) = n % 2097152
  rw [key, IntKind.wrap_u32]
  omega
def ofV (x : Int) : Bool × Int × Bool × Bool :=
  if keyF false (x / 2097152) false = x then (false, x / 2097152, false, true)
  else if keyF true (ofC x) false = x then (true, ofC x, false, true)
  else if keyF false (x / 2097152) true = x then (false, x / 2097152, true, true)
  else if keyF true (ofC x) true = x then (true, ofC x, true, true)
  else (false, 0, false, false)
theorem of_round (x b c : Int) (b0 : 0 ≤ b) (c0 : 0 ≤ c) (r : Bool) (low : Int) (l : List Bool) (i : Int) (k : Nat) :
    ident_Of.l1 (k + 3) x low b r l 2 i [(⟨false, b⟩ : S24), (⟨true, c⟩ : S24)] 2 0 = if keyF false b r = x then some (false, b, r, true) else if keyF true c r = x then some (true, c, r, true) else ident_Of.l0 k x low b l 2 (wrap64 (i + 1)) := by
  have w1 : wrap64 (0 + 1) = 1 := by unfold wrap64; omega
  have w2 : wrap64 (1 + 1) = 2 := by unfold wrap64; omega
  rw [ident_Of.l1, if_pos (by decide), if_pos (by decide), if_pos (by simp)]
  rw [show rd_T24 [(⟨false, b⟩ : S24), (⟨true, c⟩ : S24)] 0 = (⟨false, b⟩ : S24) from rfl, KeyF_eq false b r b0]
  simp only [Option.bind_some]
  by_cases h : keyF false b r = x
  · rw [if_pos h, if_pos h]
  · rw [if_neg h, if_neg h, w1, ident_Of.l1, if_pos (by decide), if_pos (by decide), if_pos (by simp)]
    rw [show rd_T24 [(⟨false, b⟩ : S24), (⟨true, c⟩ : S24)] 1 = (⟨true, c⟩ : S24) from rfl, KeyF_eq true c r c0]
    simp only [Option.bind_some]
    by_cases h2 : keyF true c r = x
    · rw [if_pos h2, if_pos h2]
    · rw [if_neg h2, if_neg h2, w2, ident_Of.l1, if_neg (by decide)]
theorem Of_eq (x : Int) (x0 : 0 ≤ x) (x1 : x < 4294967296) (k : Nat) (hk : 12 ≤ k) : ident_Of.f k x = some (ofV x) := by
  obtain ⟨k, rfl⟩ : ∃ j, k = (((j + 1) + 3) + 1 + 3) + 1 := ⟨k - 9, by omega⟩
  have p18 : (2 : Int) ^ 18 = 262144 := rfl
  have c0 : 0 ≤ ofC x := by unfold ofC; omega
  have hc : Go.bits .or .u32 ((x / 2097152 * 262144) % 4294967296) (Go.bits .and .u32 (x % 2097152 / 2) 262143) = ofC x := by
    rw [and18 _ (by omega) (by omega), Int.emod_eq_of_lt (by omega : 0 ≤ x / 2097152 * 262144) (by omega), or32k 18 _ _ (by omega) (by omega) (by rw [p18]; omega) (by omega) (by rw [p18]; omega) (by omega)]
    rfl
  have w1 : wrap64 (0 + 1) = 1 := by unfold wrap64; omega
  have w2 : wrap64 (1 + 1) = 2 := by unfold wrap64; omega
  unfold ident_Of.f ofV
  rw [and21 x x0 x1]
  simp only [Option.bind_some]
  rw [show ((([false, true] : List Bool).length : Nat) : Int) = 2 from rfl, ident_Of.l0, if_pos (by decide), if_pos (by decide), if_pos (by decide), hc]
  simp only [Option.bind_some]
  rw [show rdOf false [false, true] 0 = false from rfl]
  rw [show ((([(⟨false, x / 2097152⟩ : S24), (⟨true, ofC x⟩ : S24)] : List S24).length : Nat) : Int) = 2 from rfl, of_round x _ _ (by omega) c0]
  by_cases h1 : keyF false (x / 2097152) false = x
  · rw [if_pos h1, if_pos h1]
  rw [if_neg h1, if_neg h1]
  by_cases h2 : keyF true (ofC x) false = x
  · rw [if_pos h2, if_pos h2]
  rw [if_neg h2, if_neg h2, w1, ident_Of.l0, if_pos (by decide), if_pos (by decide), if_pos (by decide), hc]
  simp only [Option.bind_some]
  rw [show rdOf false [false, true] 1 = true from rfl]
  rw [show ((([(⟨false, x / 2097152⟩ : S24), (⟨true, ofC x⟩ : S24)] : List S24).length : Nat) : Int) = 2 from rfl, of_round x _ _ (by omega) c0]
  by_cases h3 : keyF false (x / 2097152) true = x
  · rw [if_pos h3, if_pos h3]
  rw [if_neg h3, if_neg h3]
  by_cases h4 : keyF true (ofC x) true = x
  · rw [if_pos h4, if_pos h4]
  rw [if_neg h4, if_neg h4, w2, ident_Of.l0, if_neg (by decide)]
theorem ofV_ok (x : Int) (h : (ofV x).2.2.2 = true) : keyF (ofV x).1 (ofV x).2.1 (ofV x).2.2.1 = x := by
  unfold ofV at *
  by_cases h1 : keyF false (x / 2097152) false = x
  · rw [if_pos h1]; exact h1
  rw [if_neg h1] at *
  by_cases h2 : keyF true (ofC x) false = x
  · rw [if_pos h2]; exact h2
  rw [if_neg h2] at *
  by_cases h3 : keyF false (x / 2097152) true = x
  · rw [if_pos h3]; exact h3
  rw [if_neg h3] at *
  by_cases h4 : keyF true (ofC x) true = x
  · rw [if_pos h4]; exact h4
  rw [if_neg h4] at *
  cases h
theorem ofV_key (e : Bool) (n : Int) (r : Bool) (n0 : 0 ≤ n) (h : rightV e n = true) : ofV (keyV e n r) = (e, n, r, true) := by
  have ha := askV_range r
  have pos : ∀ (x : Int) (f : Bool) (m : Int) (s : Bool), 0 ≤ m → 0 < keyV e n r → keyF f m s = keyV e n r → f = e ∧ m = n ∧ s = r := fun x f m s m0 hp hk => by
    unfold keyF at hk
    cases hr : rightV f m with
    | false => rw [hr] at hk; simp at hk; omega
    | true => rw [hr, if_pos rfl] at hk; exact keyV_inj m0 n0 hr h hk
  have kr := keyV_range r n0 h
  have fin : ∀ x, x = keyV e n r → 0 < x → (e = false → x / 2097152 = n) → (e = true → ofC x = n) → ofV x = (e, n, r, true) := fun x hx hp hf ht => by
    have c0 : 0 ≤ ofC x := by unfold ofC; omega
    have hkey : keyF e n r = x := by unfold keyF; rw [if_pos h, hx]
    unfold ofV
    by_cases h1 : keyF false (x / 2097152) false = x
    · obtain ⟨rfl, h5, rfl⟩ := pos x false _ false (by omega) (by omega) (h1.trans hx)
      rw [if_pos h1, h5]
    rw [if_neg h1]
    by_cases h2 : keyF true (ofC x) false = x
    · obtain ⟨rfl, h5, rfl⟩ := pos x true _ false c0 (by omega) (h2.trans hx)
      rw [if_pos h2, h5]
    rw [if_neg h2]
    by_cases h3 : keyF false (x / 2097152) true = x
    · obtain ⟨rfl, h5, rfl⟩ := pos x false _ true (by omega) (by omega) (h3.trans hx)
      rw [if_pos h3, h5]
    rw [if_neg h3]
    by_cases h4 : keyF true (ofC x) true = x
    · obtain ⟨rfl, h5, rfl⟩ := pos x true _ true c0 (by omega) (h4.trans hx)
      rw [if_pos h4, h5]
    exfalso
    cases e
    · rw [hf rfl] at h1 h3
      cases r
      · exact h1 hkey
      · exact h3 hkey
    · rw [ht rfl] at h2 h4
      cases r
      · exact h2 hkey
      · exact h4 hkey
  by_cases hz : 0 < keyV e n r
  · refine fin _ rfl hz (fun he => ?_) (fun he => ?_)
    · subst he
      have := right_std n0 h
      unfold keyV
      simp only [Bool.false_eq_true, if_false]
      omega
    · subst he
      have := right_ext n0 h
      unfold keyV ofC
      simp only [if_true]
      omega
  · have hk : keyV e n r = 0 := by omega
    have : e = false ∧ n = 0 ∧ r = false := by
      unfold keyV at hk
      cases e
      · simp only [Bool.false_eq_true, if_false] at hk
        refine ⟨rfl, by omega, ?_⟩
        cases r
        · rfl
        · unfold askV at hk; simp at hk; omega
      · simp only [if_true] at hk
        omega
    obtain ⟨rfl, rfl, rfl⟩ := this
    decide +kernel
end Go.Proofs.Ytcimnghmkhdolaa.P
