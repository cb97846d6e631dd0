/- Bits by the program, and where two frames are unlike first. Conditions: the ranges that each lemma names. -/
import Derived.Test.YtcimnghmkhdolaaPx8
import Derived.Test.YtcimnghmkhdolaaIdentOneWalk
namespace Go.Proofs.Ytcimnghmkhdolaa.P
open Go.RowKit Go.Proofs.YtcimnghmkhdolaaW.PrintWords Go.Proofs.YtcimnghmkhdolaaW.PrintLast Go.Proofs.YtcimnghmkhdolaaW.PrintMore
set_option linter.unusedVariables false
set_option linter.unusedSimpArgs false
theorem set_zero (b : Int) (L : List Int) : ∀ m : Nat, (List.replicate (m + 1) (0 : Int) ++ L).set m b = List.replicate m 0 ++ b :: L
  | 0 => rfl
  | m + 1 => by
    rw [List.replicate_succ, List.cons_append, List.set_cons_succ, set_zero b L m, List.replicate_succ, List.cons_append]
theorem of_loop (N : Int) (n0 : 0 ≤ N) (n1 : N < 18446744073709551616) : ∀ (m i : Nat), i + m = 32 → ∀ k, m + 1 ≤ k → strand_Of.l0 k (N / 2 ^ i) 32 (List.replicate m 0 ++ bitL N i) 32 (i : Int) = some (bitL N 32)
  | 0, i, hi, k, hk => by
    obtain ⟨k, rfl⟩ : ∃ j, k = j + 1 := ⟨k - 1, by omega⟩
    obtain rfl : i = 32 := by omega
    rw [strand_Of.l0, if_neg (by omega)]
    rfl
  | m + 1, i, hi, k, hk => by
    obtain ⟨k, rfl⟩ : ∃ j, k = j + 1 := ⟨k - 1, by omega⟩
    have q0 : 0 ≤ N / 2 ^ i := Int.ediv_nonneg n0 (Int.le_of_lt (Int.pow_pos (by omega)))
    have q1 : N / 2 ^ i ≤ N := Int.ediv_le_self _ n0
    have e1 : (i : Int) + 1 = ((i + 1 : Nat) : Int) := rfl
    have e2 : wrap64 (wrap64 (32 - 1) - (i : Int)) = (m : Int) := by rw [i64w (32 - 1) (by omega) (by omega), i64w _ (by omega) (by omega)]; omega
    rw [strand_Of.l0, if_pos (by omega), e2, if_pos (by omega), if_pos (by simp [bitL_len]; omega), and_one _ q0 (by omega), Int.toNat_natCast, set_zero, ← pow_half, i64w _ (by omega) (by omega), e1,
      show N / 2 ^ i % 2 % 256 = N / 2 ^ i % 2 by omega]
    exact of_loop N n0 n1 m (i + 1) (by omega) k (by omega)
theorem Of32_eq (N : Int) (n0 : 0 ≤ N) (n1 : N < 4294967296) (k : Nat) (hk : 40 ≤ k) : strand_Of.f k (IntKind.u64.wrap N) 32 = some (bitL N 32) := by
  obtain ⟨k, rfl⟩ : ∃ j, k = j + 1 := ⟨k - 1, by omega⟩
  have h := of_loop N n0 (by omega) 32 0 rfl k (by omega)
  rw [u64w, Int.emod_eq_of_lt n0 (by omega)]
  unfold strand_Of.f
  rw [if_neg (by omega), strand_Of.j0, if_neg (by decide), if_pos (by omega), if_pos (by decide)]
  simp only [Option.bind_some]
  rw [show (((List.replicate (32 : Int).toNat (0 : Int)).length : Nat) : Int) = 32 from rfl]
  rw [Int.pow_zero, Int.ediv_one, show bitL N 0 = [] from rfl, List.append_nil] at h
  exact h
def bitsV (e : Bool) (n : Int) (r : Bool) : List Int := if rightV e n = true then (if e = true then bitL (keyV e n r) 32 else (bitL (keyV e n r) 32).take 13) else []
theorem keyV_range {e : Bool} {n : Int} (r : Bool) (n0 : 0 ≤ n) (h : rightV e n = true) : 0 ≤ keyV e n r ∧ keyV e n r < 4294967296 := by
  have := askV_range r
  unfold keyV
  cases e
  · have := right_std n0 h
    simp only [Bool.false_eq_true, if_false]
    omega
  · have := right_ext n0 h
    simp only [if_true]
    omega
theorem Bits_eq (e : Bool) (n : Int) (r : Bool) (n0 : 0 ≤ n) (k : Nat) (hk : 40 ≤ k) : ident_Bits.f k e n r = some (bitsV e n r) := by
  unfold ident_Bits.f bitsV
  rw [Right_eq]
  simp only [Option.bind_some]
  cases h : rightV e n
  · rfl
  · have := keyV_range r n0 h
    rw [if_pos rfl, if_pos rfl, Key_eq e n r n0 h]
    simp only [Option.bind_some]
    rw [Of32_eq _ this.1 this.2 k hk]
    simp only [Option.bind_some]
    cases e
    · simp only [Bool.false_eq_true, if_false]
      rw [if_pos (by rw [bitL_len]; decide)]
      rfl
    · rfl
theorem bitL_get (N : Int) : ∀ (w i : Nat), i < w → (bitL N w)[i]? = some (N / 2 ^ (w - 1 - i) % 2)
  | 0, i, h => by omega
  | w + 1, 0, h => by simp [bitL]
  | w + 1, i + 1, h => by
    rw [bitL, List.getElem?_cons_succ, bitL_get N w i (by omega)]
    congr 4
    omega
theorem bitsV_len {e : Bool} {n : Int} {r : Bool} (h : rightV e n = true) : (bitsV e n r).length = if e = true then 32 else 13 := by
  unfold bitsV
  rw [if_pos h]
  cases e <;> simp [bitL_len]
theorem bitsV_rd {e : Bool} {n : Int} {r : Bool} (h : rightV e n = true) (i : Nat) (hi : i < (bitsV e n r).length) : rd (bitsV e n r) (i : Int) = keyV e n r / 2 ^ (31 - i) % 2 := by
  have hl := bitsV_len (r := r) h
  rw [hl] at hi
  have h32 : i < 32 := by cases e <;> simp at hi <;> omega
  have g := bitL_get (keyV e n r) 32 i h32
  unfold rd
  rw [Int.toNat_natCast, List.getD_eq_getElem?_getD]
  unfold bitsV
  rw [if_pos h]
  cases e
  · have : i < 13 := by simpa using hi
    rw [if_neg (by decide), List.getElem?_take, if_pos this, g]
    rfl
  · rw [if_pos rfl, g]
    rfl
theorem key_std (n : Int) (r : Bool) (n0 : 0 ≤ n) (h : rightV false n = true) : keyV false n r % 524288 = 0 ∧ keyV false n r / 524288 % 2 = 0 := by
  have := askV_range r
  unfold keyV
  simp only [Bool.false_eq_true, if_false]
  omega
theorem key_ext (n : Int) (r : Bool) (n0 : 0 ≤ n) (h : rightV true n = true) : keyV true n r / 524288 % 2 = 1 := by
  have := askV_range r
  have := right_ext n0 h
  unfold keyV
  simp only [if_true]
  omega
theorem loop_eq (a : Bool) (n : Int) (r : Bool) (b : Bool) (m : Int) (s : Bool) (n0 : 0 ≤ n) (m0 : 0 ≤ m) (h1 : rightV a n = true) (h2 : rightV b m = true) (hne : ¬ (a = b ∧ n = m ∧ r = s)) :
    ∀ (d i : Nat), i + d = 33 → keyV a n r / 2 ^ (32 - i) = keyV b m s / 2 ^ (32 - i) → i ≤ (bitsV a n r).length → i ≤ (bitsV b m s).length → ∀ k, 2 * d + 2 ≤ k → bellbuoylaw05_IdentBits.l0 k (bitsV a n r) (bitsV b m s) (i : Int) a n r b m s = some true
  | 0, i, hi, _, hx, _, k, hk => by
    have := bitsV_len (r := r) h1
    rw [this] at hx
    cases a <;> simp at hx <;> omega
  | d + 1, i, hi, he, hx, hy, k, hk => by
    obtain ⟨k, rfl⟩ : ∃ j, k = j + 2 := ⟨k - 2, by omega⟩
    have lx := bitsV_len (r := r) h1
    have ly := bitsV_len (r := s) h2
    have stop : ¬ (i < (bitsV a n r).length ∧ i < (bitsV b m s).length) → False := fun hc => by
      apply hne
      apply keyV_inj n0 m0 h1 h2
      rw [lx] at hx hc
      rw [ly] at hy hc
      have p19 : (2 : Int) ^ 19 = 524288 := rfl
      cases a <;> cases b <;> simp only [Bool.false_eq_true, if_false, if_true] at hx hy hc
      · obtain rfl : i = 13 := by omega
        have x := (key_std n r n0 h1).1
        have y := (key_std m s m0 h2).1
        rw [show 32 - 13 = 19 from rfl, p19] at he
        omega
      · obtain rfl : i = 13 := by omega
        have x := (key_std n r n0 h1).2
        have y := key_ext m s m0 h2
        rw [show 32 - 13 = 19 from rfl, p19] at he
        omega
      · obtain rfl : i = 13 := by omega
        have x := key_ext n r n0 h1
        have y := (key_std m s m0 h2).2
        rw [show 32 - 13 = 19 from rfl, p19] at he
        omega
      · obtain rfl : i = 32 := by omega
        rw [show 32 - 32 = 0 from rfl, Int.pow_zero, Int.ediv_one, Int.ediv_one] at he
        exact he
    have hin : i < (bitsV a n r).length ∧ i < (bitsV b m s).length := Classical.byContradiction fun hc => stop hc
    have hi32 : i < 32 := by rw [lx] at hin; cases a <;> simp at hin <;> omega
    have rx := bitsV_rd (r := r) h1 i hin.1
    have ry := bitsV_rd (r := s) h2 i hin.2
    have e31 : 32 - i = (31 - i) + 1 := by omega
    rw [e31, pow_half, pow_half] at he
    rw [bellbuoylaw05_IdentBits.l0, if_pos (by omega), bellbuoylaw05_IdentBits.j2, if_pos (decide_eq_true (by omega)), if_pos (by omega), if_pos (by omega), if_pos (by omega), rx, ry]
    have xk := keyV_range r n0 h1
    have yk := keyV_range s m0 h2
    by_cases hb : keyV a n r / 2 ^ (31 - i) % 2 = keyV b m s / 2 ^ (31 - i) % 2
    · rw [if_pos hb, i64w _ (by omega) (by omega)]
      have e1 : (i : Int) + 1 = ((i + 1 : Nat) : Int) := rfl
      rw [e1]
      refine loop_eq a n r b m s n0 m0 h1 h2 hne d (i + 1) (by omega) ?_ (by omega) (by omega) k (by omega)
      rw [show 32 - (i + 1) = 31 - i by omega]
      omega
    · rw [if_neg hb]
      simp only [bellbuoylaw05_live.f, Option.bind_some, if_true]
      rw [Wins_eq a n r b m s n0 m0, h1, h2]
      simp only [Option.bind_some, Bool.true_and]
      congr 1
      rw [beq_iff_eq, Bool.eq_iff_iff, decide_eq_true_eq, beq_iff_eq]
      have hp : (0 : Int) < 2 ^ (31 - i) := Int.pow_pos (by omega)
      have lt1 : keyV a n r / 2 ^ (31 - i) < keyV b m s / 2 ^ (31 - i) → keyV a n r < keyV b m s := fun h => by
        apply Classical.byContradiction
        intro hc
        have := Int.ediv_le_ediv hp (show keyV b m s ≤ keyV a n r by omega)
        omega
      have lt2 : keyV b m s / 2 ^ (31 - i) < keyV a n r / 2 ^ (31 - i) → keyV b m s < keyV a n r := fun h => by
        apply Classical.byContradiction
        intro hc
        have := Int.ediv_le_ediv hp (show keyV a n r ≤ keyV b m s by omega)
        omega
      generalize keyV a n r / 2 ^ (31 - i) = A at *
      generalize keyV b m s / 2 ^ (31 - i) = B at *
      constructor
      · intro h
        apply Classical.byContradiction
        intro hz
        have := lt2 (by omega)
        omega
      · intro h
        exact lt1 (by omega)
theorem IdentBits_walk (a0_0 : Bool) (a0_1 : Int) (a0_2 a1_0 : Bool) (a1_1 : Int) (a1_2 : Bool) (w : World) (w0_1 : (Lit.int .u32 a0_1).wf = true) (w1_1 : (Lit.int .u32 a1_1).wf = true) :
    Calls Try.prog 5 #[.agg #[.bool a0_0, .int .u32 a0_1, .bool a0_2], .agg #[.bool a1_0, .int .u32 a1_1, .bool a1_2]] w fun e w' => e = .returned (.bool true) ∧ Below w.heap.size w w' := by
  have b0 := (wf32 w0_1).1
  have b1 := (wf32 w1_1).1
  refine bellbuoylaw05_IdentBits.calls 200 a0_0 a0_1 a0_2 a1_0 a1_1 a1_2 true w ?_
  unfold bellbuoylaw05_IdentBits.f
  rw [Bits_eq _ _ _ b0 200 (by omega), Bits_eq _ _ _ b1 200 (by omega)]
  simp only [Option.bind_some]
  have live : ∀ x y, bellbuoylaw05_IdentBits.j0 200 x y true a0_0 a0_1 a0_2 a1_0 a1_1 a1_2 = some true := fun x y => by
    rw [bellbuoylaw05_IdentBits.j0, if_pos rfl]; rfl
  cases h1 : rightV a0_0 a0_1 with
  | false => rw [if_pos (by unfold bitsV; rw [h1]; rfl)]; exact live _ _
  | true =>
    have l1 := bitsV_len (r := a0_2) h1
    rw [if_neg (by rw [l1]; cases a0_0 <;> simp)]
    cases h2 : rightV a1_0 a1_1 with
    | false => rw [if_pos (by unfold bitsV; rw [h2]; rfl)]; exact live _ _
    | true =>
      have l2 := bitsV_len (r := a1_2) h2
      rw [if_neg (by rw [l2]; cases a1_0 <;> simp)]
      cases he : ((a0_0 == a1_0 && (a0_1 == a1_1)) && (a0_2 == a1_2)) with
      | true => exact live _ _
      | false =>
        rw [bellbuoylaw05_IdentBits.j0, if_neg (by decide)]
        have k1 := keyV_range a0_2 b0 h1
        have k2 := keyV_range a1_2 b1 h2
        have p32 : (2 : Int) ^ 32 = 4294967296 := rfl
        refine loop_eq a0_0 a0_1 a0_2 a1_0 a1_1 a1_2 b0 b1 h1 h2 (fun hh => ?_) 33 0 rfl ?_ (by omega) (by omega) 199 (by omega)
        · obtain ⟨rfl, rfl, rfl⟩ := hh
          simp at he
        · rw [show 32 - 0 = 32 from rfl, p32, Int.ediv_eq_zero_of_lt k1.1 k1.2, Int.ediv_eq_zero_of_lt k2.1 k2.2]
end Go.Proofs.Ytcimnghmkhdolaa.P
