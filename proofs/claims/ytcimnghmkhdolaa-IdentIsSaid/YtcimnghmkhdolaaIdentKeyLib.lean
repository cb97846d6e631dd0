/- Layer 5's keys and which frames win, in the program and in its reference, as plain integers. Conditions: the ranges that each lemma names. -/
import Derived.Test.YtcimnghmkhdolaaIdentBitsLib
namespace Go.Proofs.Ytcimnghmkhdolaa.P
open Go.RowKit Go.Proofs.YtcimnghmkhdolaaW.PrintWords Go.Proofs.YtcimnghmkhdolaaW.PrintLast Go.Proofs.YtcimnghmkhdolaaW.PrintMore
set_option linter.unusedVariables false
set_option linter.unusedSimpArgs false
def askV (r : Bool) : Int := if r = true then 1 else 0
theorem askV_range (r : Bool) : 0 ≤ askV r ∧ askV r ≤ 1 := by cases r <;> decide
def keyV (e : Bool) (n : Int) (r : Bool) : Int := if e = true then n / 262144 * 2097152 + 1572864 + n % 262144 * 2 + askV r else n * 2097152 + askV r * 1048576
theorem right_ext {n : Int} (n0 : 0 ≤ n) (h : rightV true n = true) : n < 536870912 := by
  simp only [rightV, if_true, beq_iff_eq] at h; omega
theorem right_std {n : Int} (n0 : 0 ≤ n) (h : rightV false n = true) : n < 2048 := by
  simp only [rightV, Bool.false_eq_true, if_false, beq_iff_eq] at h; omega
theorem refRight_eq (e : Bool) (n : Int) (n0 : 0 ≤ n) : bellbuoyref05_Right.f e n = some (rightV e n) := by
  unfold bellbuoyref05_Right.f rightV
  cases e
  · rw [if_neg (by decide), if_neg (by decide)]
    congr 1
    rw [Bool.eq_iff_iff, decide_eq_true_eq, beq_iff_eq]
    omega
  · rw [if_pos rfl, if_pos rfl]
    congr 1
    rw [Bool.eq_iff_iff, decide_eq_true_eq, beq_iff_eq]
    omega
theorem or32k (i : Nat) (x y : Int) (x0 : 0 ≤ x) (x1 : x < 4294967296) (hx : x % 2 ^ i = 0) (y0 : 0 ≤ y) (y1 : y < 2 ^ i) (y2 : y < 4294967296) : Go.bits .or .u32 x y = x + y := by
  have p32 : (2 : Int) ^ 32 = 4294967296 := rfl
  exact bits_join .u32 32 (by decide) (fun n h₀ h₁ => by rw [IntKind.wrap_u32]; omega) i x y x0 hx (by rw [p32]; omega) y0 y1 (by rw [p32]; omega)
theorem and18 (n : Int) (n0 : 0 ≤ n) (n1 : n < 4294967296) : Go.bits .and .u32 n 262143 = n % 262144 := by
  have h : (BitVec.ofInt 32 262143).toNat = 2 ^ 18 - 1 := by decide
  have key : (BitVec.ofInt 32 n &&& BitVec.ofInt 32 262143).toNat = (n % ((2 ^ 32 : Nat) : Int)).toNat % 2 ^ 18 := by
    rw [BitVec.toNat_and, BitVec.toNat_ofInt, h, Nat.and_two_pow_sub_one_eq_mod]
  show IntKind.u32.wrap ((BitVec.ofInt 32 n &&& BitVec.ofInt 32 262143).toNat : Nat) = n % 262144
  rw [key, IntKind.wrap_u32]
  omega
theorem truth_eq (r : Bool) : ident_truth.f r = some (askV r) := by cases r <;> rfl
theorem Key_eq (e : Bool) (n : Int) (r : Bool) (n0 : 0 ≤ n) (h : rightV e n = true) : ident_Key.f e n r = some (keyV e n r) := by
  have ha := askV_range r
  have p1 : (2 : Int) ^ 1 = 2 := rfl
  have p19 : (2 : Int) ^ 19 = 524288 := rfl
  have p20 : (2 : Int) ^ 20 = 1048576 := rfl
  have p21 : (2 : Int) ^ 21 = 2097152 := rfl
  unfold ident_Key.f keyV
  rw [Right_eq, h]
  simp only [Option.bind_some, if_true]
  cases e
  · have hn := right_std n0 h
    simp only [Bool.false_eq_true, if_false, truth_eq, Option.bind_some]
    rw [Int.emod_eq_of_lt (by omega : 0 ≤ n * 2097152) (by omega), Int.emod_eq_of_lt (by omega : 0 ≤ askV r * 1048576) (by omega), or32k 21 _ _ (by omega) (by omega) (by rw [p21]; omega) (by omega) (by rw [p21]; omega) (by omega)]
  · have hn := right_ext n0 h
    simp only [if_true, truth_eq, Option.bind_some]
    rw [and18 n n0 (by omega), Int.emod_eq_of_lt (by omega : 0 ≤ n / 262144 * 2097152) (by omega), Int.emod_eq_of_lt (by omega : 0 ≤ n % 262144 * 2) (by omega), or32k 21 _ 1572864 (by omega) (by omega) (by rw [p21]; omega) (by omega) (by rw [p21]; omega) (by omega),
      or32k 19 _ (n % 262144 * 2) (by omega) (by omega) (by rw [p19]; omega) (by omega) (by rw [p19]; omega) (by omega), or32k 1 _ (askV r) (by omega) (by omega) (by rw [p1]; omega) (by omega) (by rw [p1]; omega) (by omega)]
/-- The bits that the reference gives. -/
def refBits (e : Bool) (n : Int) (r : Bool) : List Int := if e = true then bitL (n / 262144) 11 ++ [1, 1] ++ bitL n 18 ++ [askV r] else bitL ((n * 2 + askV r) * 2) 13
theorem refBits_eq (e : Bool) (n : Int) (r : Bool) (n0 : 0 ≤ n) (h : rightV e n = true) (k : Nat) (hk : 30 ≤ k) : bellbuoyref05_Bits.f k e n r = some (refBits e n r) := by
  obtain ⟨k, rfl⟩ : ∃ j, k = j + 1 := ⟨k - 1, by omega⟩
  have key : bellbuoyref05_Bits.j0 (k + 1) (askV r) e n = some (refBits e n r) := by
    have ha := askV_range r
    rw [bellbuoyref05_Bits.j0]
    unfold refBits
    cases e
    · have hn := right_std n0 h
      simp only [Bool.false_eq_true, if_false]
      rw [u64w n, Int.emod_eq_of_lt n0 (by omega), u64w (n * 2), Int.emod_eq_of_lt (by omega : 0 ≤ n * 2) (by omega), u64w (n * 2 + askV r), Int.emod_eq_of_lt (by omega : 0 ≤ n * 2 + askV r) (by omega), u64w, Int.emod_eq_of_lt (by omega : 0 ≤ (n * 2 + askV r) * 2) (by omega)]
      have := refOf_eq ((n * 2 + askV r) * 2) (by omega) (by omega) 13 (by omega) (by omega) k (by omega)
      rw [show ((13 : Nat) : Int) = 13 from rfl] at this
      rw [this]
      rfl
    · have hn := right_ext n0 h
      simp only [if_true]
      rw [u64w (n / 262144), Int.emod_eq_of_lt (by omega : 0 ≤ n / 262144) (by omega), u64w n, Int.emod_eq_of_lt n0 (by omega)]
      have e1 := refOf_eq (n / 262144) (by omega) (by omega) 11 (by omega) (by omega) k (by omega)
      have e2 := refOf_eq n (by omega) (by omega) 18 (by omega) (by omega) k (by omega)
      rw [show ((11 : Nat) : Int) = 11 from rfl] at e1
      rw [show ((18 : Nat) : Int) = 18 from rfl] at e2
      rw [e1]
      simp only [Option.bind_some]
      rw [if_pos (by rw [bitL_len]; decide), e2]
      simp only [Option.bind_some]
      rw [if_pos (by simp [bitL_len]), if_pos (by simp [bitL_len]), show askV r % 256 = askV r by omega]
  unfold bellbuoyref05_Bits.f
  rw [refRight_eq e n n0, h]
  simp only [Option.bind_some, if_true]
  cases r
  · rw [if_neg (by decide)]; exact key
  · rw [if_pos rfl]; exact key
theorem bits_append {l m : List Int} (hl : ∀ x ∈ l, Bit x) (hm : ∀ x ∈ m, Bit x) : ∀ x ∈ l ++ m, Bit x := fun x h => (List.mem_append.1 h).elim (hl x) (hm x)
theorem refBits_bit (e : Bool) (n : Int) (r : Bool) : ∀ x ∈ refBits e n r, Bit x := by
  unfold refBits
  cases e
  · exact bitL_bit _ _
  · refine bits_append (bits_append (bits_append (bitL_bit _ _) ?_) (bitL_bit _ _)) ?_
    · intro x h; simp at h; exact .inr h
    · intro x h; simp at h; rw [h]; cases r <;> first | exact .inl rfl | exact .inr rfl
theorem refBits_len (e : Bool) (n : Int) (r : Bool) : (refBits e n r).length = if e = true then 32 else 13 := by
  unfold refBits
  cases e <;> simp [bitL_len]
theorem pad_loop (l : List Int) (hb : ∀ x ∈ l, Bit x) : ∀ (m : Nat), l.length + m = 32 → ∀ k, m + 40 ≤ k → bellbuoyref05_Key.l0 k l = some (numF 0 (l ++ List.replicate m 0) % 4294967296)
  | 0, hl, k, hk => by
    obtain ⟨k, rfl⟩ : ∃ j, k = j + 1 := ⟨k - 1, by omega⟩
    rw [bellbuoyref05_Key.l0, if_neg (by omega), refNumber_eq l hb (by omega) k (by omega), List.replicate_zero, List.append_nil]
    rfl
  | m + 1, hl, k, hk => by
    obtain ⟨k, rfl⟩ : ∃ j, k = j + 1 := ⟨k - 1, by omega⟩
    rw [bellbuoyref05_Key.l0, if_pos (by omega), if_pos (by omega), pad_loop (l ++ [0]) (bits_append hb (fun x h => by simp at h; exact .inl h)) m (by simp; omega) k (by omega), List.append_assoc]
    rfl
theorem refKey_eq (e : Bool) (n : Int) (r : Bool) (n0 : 0 ≤ n) (h : rightV e n = true) (k : Nat) (hk : 80 ≤ k) : bellbuoyref05_Key.f k e n r = some (keyV e n r) := by
  have ha := askV_range r
  have hlen := refBits_len e n r
  unfold bellbuoyref05_Key.f
  rw [refBits_eq e n r n0 h k (by omega)]
  simp only [Option.bind_some]
  rw [if_neg (by rw [hlen]; cases e <;> simp)]
  cases e
  · have hn := right_std n0 h
    rw [pad_loop _ (refBits_bit _ _ _) 19 (by rw [hlen]; rfl) k (by omega)]
    congr 1
    rw [numF_append, numF_zeros]
    have p13 : (2 : Int) ^ 13 = 8192 := rfl
    have p19 : (2 : Int) ^ 19 = 524288 := rfl
    simp only [refBits, Bool.false_eq_true, if_false, keyV]
    rw [numF_bitL, p13, p19]
    omega
  · have hn := right_ext n0 h
    rw [pad_loop _ (refBits_bit _ _ _) 0 (by rw [hlen]; rfl) k (by omega)]
    congr 1
    rw [List.replicate_zero, List.append_nil]
    have p11 : (2 : Int) ^ 11 = 2048 := rfl
    have p18 : (2 : Int) ^ 18 = 262144 := rfl
    simp only [refBits, if_true, keyV]
    rw [numF_append, numF_append, numF_append, numF_bitL, numF_bitL, p11, p18]
    simp only [numF, List.foldl_cons, List.foldl_nil]
    omega
theorem Wins_eq (e : Bool) (n : Int) (r : Bool) (f : Bool) (m : Int) (s : Bool) (n0 : 0 ≤ n) (m0 : 0 ≤ m) : ident_Wins.f e n r f m s = some (rightV e n && rightV f m && decide (keyV e n r < keyV f m s)) := by
  unfold ident_Wins.f
  rw [Right_eq, Right_eq]
  simp only [Option.bind_some]
  cases h1 : rightV e n
  · rfl
  · cases h2 : rightV f m
    · rfl
    · rw [Key_eq e n r n0 h1, Key_eq f m s m0 h2]; rfl
theorem refWins_eq (e : Bool) (n : Int) (r : Bool) (f : Bool) (m : Int) (s : Bool) (n0 : 0 ≤ n) (m0 : 0 ≤ m) (k : Nat) (hk : 80 ≤ k) : bellbuoyref05_Wins.f k e n r f m s = some (rightV e n && rightV f m && decide (keyV e n r < keyV f m s)) := by
  unfold bellbuoyref05_Wins.f
  rw [refRight_eq e n n0, refRight_eq f m m0]
  simp only [Option.bind_some]
  cases h1 : rightV e n
  · rfl
  · cases h2 : rightV f m
    · rfl
    · rw [refKey_eq e n r n0 h1 k hk, refKey_eq f m s m0 h2 k hk]; rfl
theorem wf32 {n : Int} (h : (Lit.int .u32 n).wf = true) : 0 ≤ n ∧ n < 4294967296 := by
  simp only [Lit.wf, Bool.and_eq_true, decide_eq_true_eq] at h
  have h1 : 0 ≤ n := h.1
  have h2 : n ≤ 4294967295 := h.2
  omega
theorem IdentWins_walk (a0_0 : Bool) (a0_1 : Int) (a0_2 a1_0 : Bool) (a1_1 : Int) (a1_2 : Bool) (w : World) (w0_1 : (Lit.int .u32 a0_1).wf = true) (w1_1 : (Lit.int .u32 a1_1).wf = true) :
    Calls Try.prog 3 #[.agg #[.bool a0_0, .int .u32 a0_1, .bool a0_2], .agg #[.bool a1_0, .int .u32 a1_1, .bool a1_2]] w fun e w' => e = .returned (.bool true) ∧ Below w.heap.size w w' := by
  have b0 := wf32 w0_1
  have b1 := wf32 w1_1
  refine bellbuoylaw05_IdentWins.calls 100 a0_0 a0_1 a0_2 a1_0 a1_1 a1_2 true w ?_
  unfold bellbuoylaw05_IdentWins.f bellbuoylaw05_live.f
  simp only [Option.bind_some, if_true]
  rw [Wins_eq _ _ _ _ _ _ b0.1 b1.1, refWins_eq _ _ _ _ _ _ b0.1 b1.1 100 (by omega)]
  simp
end Go.Proofs.Ytcimnghmkhdolaa.P
