/- Keys of identifiers and the bits of their frames, as plain integers. Conditions: the ranges that each lemma names. -/
import Derived.Test.YtjhnkncmdeineaaDoorBodRight
namespace Go.Proofs.YtjhnkncmdeineaaDoor.P
open Go.RowKit Go.Proofs.YtjhnkncmdeineaaDoorW.PrintWords Go.Proofs.YtjhnkncmdeineaaDoorW.PrintLast Go.Proofs.YtjhnkncmdeineaaDoorW.PrintMore
set_option linter.unusedVariables false
set_option linter.unusedSimpArgs false
def rightV (e : Bool) (n : Int) : Bool := if e = true then (n / 536870912) == 0 else (n / 2048) == 0
theorem Right_eq (e : Bool) (n : Int) : ident_Right.f e n = some (rightV e n) := by
  unfold ident_Right.f rightV
  cases e <;> rfl
def askV (r : Bool) : Int := if r = true then 1 else 0
theorem askV_range (r : Bool) : 0 ≤ askV r ∧ askV r ≤ 1 := by cases r <;> decide
def keyV (e : Bool) (n : Int) (r : Bool) : Int := if e = true then n / 262144 * 2097152 + 1572864 + n % 262144 * 2 + askV r else n * 2097152 + askV r * 1048576
theorem right_ext {n : Int} (n0 : 0 ≤ n) (h : rightV true n = true) : n < 536870912 := by
  simp only [rightV, if_true, beq_iff_eq] at h; omega
theorem right_std {n : Int} (n0 : 0 ≤ n) (h : rightV false n = true) : n < 2048 := by
  simp only [rightV, Bool.false_eq_true, if_false, beq_iff_eq] at h; omega
theorem or32k (i : Nat) (x y : Int) (x0 : 0 ≤ x) (x1 : x < 4294967296) (hx : x % 2 ^ i = 0) (y0 : 0 ≤ y) (y1 : y < 2 ^ i) (y2 : y < 4294967296) : Go.bits .or .u32 x y = x + y := by
  have p32 : (2 : Int) ^ 32 = 4294967296 := rfl
  exact bits_join .u32 32 (by decide) (fun n h₀ h₁ => by rw [IntKind.wrap_u32]; omega) i x y x0 hx (by rw [p32]; omega) y0 y1 (by rw [p32]; omega)
theorem and18 (n : Int) (n0 : 0 ≤ n) (n1 : n < 4294967296) : Go.bits .and .u32 n 262143 = n % 262144 := by
  have h : (BitVec.ofInt 32 262143).toNat = 2 ^ 18 - 1 := by decide
  have key : (BitVec.ofInt 32 n &&& BitVec.ofInt 32 262143).toNat = (n % ((2 ^ 32 : Nat) : Int)).toNat % 2 ^ 18 := by
    rw [BitVec.toNat_and, BitVec.toNat_ofInt, h, Nat.and_two_pow_sub_one_eq_mod]
  show IntKind.u32.wrap ((BitVec.ofInt 32 n &&& BitVec.ofInt 32 262143).toNat : Nat) = n % 262144
  rw [key, IntKind.wrap_u32]
  omega
theorem truth_eq (r : Bool) : ident_truth.f r = some (askV r) := by cases r <;> rfl
theorem Key_eq (e : Bool) (n : Int) (r : Bool) (n0 : 0 ≤ n) (h : rightV e n = true) : ident_Key.f e n r = some (keyV e n r) := by
  have ha := askV_range r
  have p1 : (2 : Int) ^ 1 = 2 := rfl
  have p19 : (2 : Int) ^ 19 = 524288 := rfl
  have p20 : (2 : Int) ^ 20 = 1048576 := rfl
  have p21 : (2 : Int) ^ 21 = 2097152 := rfl
  unfold ident_Key.f keyV
  rw [Right_eq, h]
  simp only [Option.bind_some, if_true]
  cases e
  · have hn := right_std n0 h
    simp only [Bool.false_eq_true, if_false, truth_eq, Option.bind_some]
    rw [Int.emod_eq_of_lt (by omega : 0 ≤ n * 2097152) (by omega), Int.emod_eq_of_lt (by omega : 0 ≤ askV r * 1048576) (by omega), or32k 21 _ _ (by omega) (by omega) (by rw [p21]; omega) (by omega) (by rw [p21]; omega) (by omega)]
  · have hn := right_ext n0 h
    simp only [if_true, truth_eq, Option.bind_some]
    rw [and18 n n0 (by omega), Int.emod_eq_of_lt (by omega : 0 ≤ n / 262144 * 2097152) (by omega), Int.emod_eq_of_lt (by omega : 0 ≤ n % 262144 * 2) (by omega), or32k 21 _ 1572864 (by omega) (by omega) (by rw [p21]; omega) (by omega) (by rw [p21]; omega) (by omega),
      or32k 19 _ (n % 262144 * 2) (by omega) (by omega) (by rw [p19]; omega) (by omega) (by rw [p19]; omega) (by omega), or32k 1 _ (askV r) (by omega) (by omega) (by rw [p1]; omega) (by omega) (by rw [p1]; omega) (by omega)]
theorem Wins_eq (e : Bool) (n : Int) (r : Bool) (f : Bool) (m : Int) (s : Bool) (n0 : 0 ≤ n) (m0 : 0 ≤ m) : ident_Wins.f e n r f m s = some (rightV e n && rightV f m && decide (keyV e n r < keyV f m s)) := by
  unfold ident_Wins.f
  rw [Right_eq, Right_eq]
  simp only [Option.bind_some]
  cases h1 : rightV e n
  · rfl
  · cases h2 : rightV f m
    · rfl
    · rw [Key_eq e n r n0 h1, Key_eq f m s m0 h2]; rfl
theorem Of32_eq (N : Int) (n0 : 0 ≤ N) (n1 : N < 4294967296) (k : Nat) (hk : 40 ≤ k) : strand_Of.f k (IntKind.u64.wrap N) 32 = some (bitL N 32) := by
  rw [u64w, Int.emod_eq_of_lt n0 (by omega)]
  exact Of_eq 32 (by decide) (by decide) N n0 (by omega) k (by omega)
def bitsV (e : Bool) (n : Int) (r : Bool) : List Int := if rightV e n = true then (if e = true then bitL (keyV e n r) 32 else (bitL (keyV e n r) 32).take 13) else []
theorem keyV_range {e : Bool} {n : Int} (r : Bool) (n0 : 0 ≤ n) (h : rightV e n = true) : 0 ≤ keyV e n r ∧ keyV e n r < 4294967296 := by
  have := askV_range r
  unfold keyV
  cases e
  · have := right_std n0 h
    simp only [Bool.false_eq_true, if_false]
    omega
  · have := right_ext n0 h
    simp only [if_true]
    omega
theorem Bits_eq (e : Bool) (n : Int) (r : Bool) (n0 : 0 ≤ n) (k : Nat) (hk : 40 ≤ k) : ident_Bits.f k e n r = some (bitsV e n r) := by
  unfold ident_Bits.f bitsV
  rw [Right_eq]
  simp only [Option.bind_some]
  cases h : rightV e n
  · rfl
  · have := keyV_range r n0 h
    rw [if_pos rfl, if_pos rfl, Key_eq e n r n0 h]
    simp only [Option.bind_some]
    rw [Of32_eq _ this.1 this.2 k hk]
    simp only [Option.bind_some]
    cases e
    · simp only [Bool.false_eq_true, if_false]
      rw [if_pos (by rw [bitL_len]; decide)]
      rfl
    · rfl
theorem bitL_get (N : Int) : ∀ (w i : Nat), i < w → (bitL N w)[i]? = some (N / 2 ^ (w - 1 - i) % 2)
  | 0, i, h => by omega
  | w + 1, 0, h => by simp [bitL]
  | w + 1, i + 1, h => by
    rw [bitL, List.getElem?_cons_succ, bitL_get N w i (by omega)]
    congr 4
    omega
theorem bitsV_len {e : Bool} {n : Int} {r : Bool} (h : rightV e n = true) : (bitsV e n r).length = if e = true then 32 else 13 := by
  unfold bitsV
  rw [if_pos h]
  cases e <;> simp [bitL_len]
theorem bitsV_get {e : Bool} {n : Int} {r : Bool} (h : rightV e n = true) (i : Nat) (hi : i < (bitsV e n r).length) : (bitsV e n r)[i]? = some (keyV e n r / 2 ^ (31 - i) % 2) := by
  have hl := bitsV_len (r := r) h
  rw [hl] at hi
  have h32 : i < 32 := by cases e <;> simp at hi <;> omega
  have g := bitL_get (keyV e n r) 32 i h32
  unfold bitsV
  rw [if_pos h]
  cases e
  · have : i < 13 := by simpa using hi
    rw [if_neg (by decide), List.getElem?_take, if_pos this, g]
  · rw [if_pos rfl, g]
theorem key_std (n : Int) (r : Bool) (n0 : 0 ≤ n) (h : rightV false n = true) : keyV false n r % 524288 = 0 ∧ keyV false n r / 524288 % 2 = 0 := by
  have := askV_range r
  unfold keyV
  simp only [Bool.false_eq_true, if_false]
  omega
theorem key_ext (n : Int) (r : Bool) (n0 : 0 ≤ n) (h : rightV true n = true) : keyV true n r / 524288 % 2 = 1 := by
  have := askV_range r
  have := right_ext n0 h
  unfold keyV
  simp only [if_true]
  omega
theorem good_right {e : Bool} {n : Int} {r : Bool} {L : Int} {x : Nat → Int} (h : Good e n r L x) : rightV e n = true := by
  have := idRight e n h.n0 h.n1 h.n2
  rw [Right_eq] at this
  exact Option.some.inj this
theorem quot_quot (K : Int) (a b : Nat) : K / 2 ^ (a + b) = K / 2 ^ a / 2 ^ b := by
  rw [Int.pow_add, Int.ediv_ediv_of_nonneg (Int.le_of_lt (Int.pow_pos (by omega)))]
/-- Two numbers are the same, or unlike at a first bit. -/
theorem first_bit (K M : Int) : ∀ (d i : Nat), i + d = 32 → K / 2 ^ (32 - i) = M / 2 ^ (32 - i) → K = M ∨ ∃ p, p < 32 ∧ K / 2 ^ (32 - p) = M / 2 ^ (32 - p) ∧ K / 2 ^ (31 - p) % 2 ≠ M / 2 ^ (31 - p) % 2
  | 0, i, hi, he => by
    obtain rfl : i = 32 := by omega
    rw [Nat.sub_self, Int.pow_zero, Int.ediv_one, Int.ediv_one] at he
    exact .inl he
  | d + 1, i, hi, he => by
    by_cases hb : K / 2 ^ (31 - i) % 2 = M / 2 ^ (31 - i) % 2
    · refine first_bit K M d (i + 1) (by omega) ?_
      rw [show 32 - (i + 1) = 31 - i by omega]
      rw [show 32 - i = (31 - i) + 1 by omega, quot_quot, quot_quot, Int.pow_one] at he
      omega
    · exact .inr ⟨i, by omega, he, hb⟩
theorem first_diff {a b : Bool} {n m : Int} {r s : Bool} (n0 : 0 ≤ n) (m0 : 0 ≤ m) (h1 : rightV a n = true) (h2 : rightV b m = true) (hne : keyV a n r ≠ keyV b m s) :
    ∃ p, p < (bitsV a n r).length ∧ p < (bitsV b m s).length ∧ (∀ j, j < p → (bitsV a n r)[j]? = (bitsV b m s)[j]?) ∧ (∃ u v : Int, (bitsV a n r)[p]? = some u ∧ (bitsV b m s)[p]? = some v ∧ u ≠ v ∧ (keyV a n r < keyV b m s ↔ u = 0)) := by
  have xk := keyV_range r n0 h1
  have yk := keyV_range s m0 h2
  have lx := bitsV_len (r := r) h1
  have ly := bitsV_len (r := s) h2
  obtain ⟨p, hp, he, hb⟩ := (first_bit (keyV a n r) (keyV b m s) 32 0 rfl (by
    have p32 : (2 : Int) ^ (32 - 0) = 4294967296 := rfl
    rw [p32]
    omega)).resolve_left hne
  have up : ∀ q, 32 - p ≤ q → keyV a n r / 2 ^ q = keyV b m s / 2 ^ q := fun q hq => by
    rw [show q = (32 - p) + (q - (32 - p)) by omega, quot_quot, quot_quot, he]
  have p19 : (2 : Int) ^ 19 = 524288 := rfl
  have hl : p < (bitsV a n r).length ∧ p < (bitsV b m s).length := by
    rw [lx, ly]
    by_cases h13 : p < 13
    · constructor <;> split <;> omega
    · have u19 := up 19 (by omega)
      rw [p19] at u19
      cases a <;> cases b
      · exfalso
        have x := (key_std n r n0 h1).1
        have y := (key_std m s m0 h2).1
        omega
      · exfalso
        have x := (key_std n r n0 h1).2
        have y := key_ext m s m0 h2
        omega
      · exfalso
        have x := key_ext n r n0 h1
        have y := (key_std m s m0 h2).2
        omega
      · exact ⟨hp, hp⟩
  refine ⟨p, hl.1, hl.2, fun j hj => ?_, _, _, bitsV_get h1 p hl.1, bitsV_get h2 p hl.2, hb, ?_⟩
  · rw [bitsV_get h1 j (by omega), bitsV_get h2 j (by omega), up (31 - j) (by omega)]
  · have hpos : (0 : Int) < 2 ^ (31 - p) := Int.pow_pos (by omega)
    have e31 : 32 - p = (31 - p) + 1 := by omega
    rw [e31, quot_quot, quot_quot, Int.pow_one] at he
    have lt1 : keyV a n r / 2 ^ (31 - p) < keyV b m s / 2 ^ (31 - p) → keyV a n r < keyV b m s := fun h => by
      apply Classical.byContradiction
      intro hc
      have := Int.ediv_le_ediv hpos (show keyV b m s ≤ keyV a n r by omega)
      omega
    have lt2 : keyV b m s / 2 ^ (31 - p) < keyV a n r / 2 ^ (31 - p) → keyV b m s < keyV a n r := fun h => by
      apply Classical.byContradiction
      intro hc
      have := Int.ediv_le_ediv hpos (show keyV a n r ≤ keyV b m s by omega)
      omega
    generalize keyV a n r / 2 ^ (31 - p) = A at *
    generalize keyV b m s / 2 ^ (31 - p) = B at *
    constructor
    · intro h
      apply Classical.byContradiction
      intro hz
      have := lt2 (by omega)
      omega
    · intro h
      exact lt1 (by omega)
end Go.Proofs.YtjhnkncmdeineaaDoor.P
