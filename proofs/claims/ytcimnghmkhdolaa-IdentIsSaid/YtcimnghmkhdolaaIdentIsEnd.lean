/- Whether an identifier can be, its bits, key and text, and what a key and a text are: the law, for every input. No condition but that the numbers are of their kinds. -/
import Derived.Test.YtcimnghmkhdolaaIdentIsWalk
namespace Go.Proofs.Ytcimnghmkhdolaa.P
open Go.RowKit Go.Proofs.YtcimnghmkhdolaaW.PrintWords Go.Proofs.YtcimnghmkhdolaaW.PrintLast Go.Proofs.YtcimnghmkhdolaaW.PrintMore
set_option linter.unusedVariables false
set_option linter.unusedSimpArgs false
set_option maxHeartbeats 2000000 in
set_option maxRecDepth 100000 in
theorem Is_long (e : Bool) (n key : Int) (s : ByteArray) (w : World) (hs : decide (100 < (s.size : Int)) = true) :
    Calls Try.prog 6 #[.agg #[.bool e, .int .u32 n], .int .u32 key, .string s] w fun e w' => e = .returned (.bool true) ∧ Below w.heap.size w w' := by
  have hu24 := Try.underlying24
  go_enter Try.func6, Try.ntmps6
  go_wp2_with fail
  (with_reducible refine (lv_walk _).mono ?_); rintro e w1 ⟨rfl, hb⟩
  go_wp2_with fail
  go_ret
  exact ⟨rfl, below_step (below_alloc (Below.refl _ w) _) hb⟩
theorem refRightF (e : Bool) (n : Int) (n0 : 0 ≤ n) : bellbuoyref05_Right.f e n = some (rightV e n) := refRight_eq e n n0
theorem bits_len (e : Bool) (n : Int) (r : Bool) : (bitsV e n r).length ≤ 100 := by
  unfold bitsV
  split
  · split
    · rw [bitL_len]; omega
    · rw [List.length_take, bitL_len]; omega
  · exact Nat.zero_le _
theorem refBits_all (e : Bool) (n : Int) (r : Bool) (n0 : 0 ≤ n) : bellbuoyref05_Bits.f 200 e n r = some (bitsV e n r) := by
  cases h : rightV e n with
  | true => rw [bits_same e n r n0 h, refBits_eq e n r n0 h 200 (by omega)]
  | false =>
    unfold bellbuoyref05_Bits.f bitsV
    rw [refRight_eq e n n0, h]
    rfl
theorem refKey_all (e : Bool) (n : Int) (r : Bool) (n0 : 0 ≤ n) : bellbuoyref05_Key.f 200 e n r = some (keyF e n r) := by
  cases h : rightV e n with
  | true => rw [refKey_eq e n r n0 h 200 (by omega), keyF, if_pos h]
  | false =>
    unfold bellbuoyref05_Key.f
    rw [refBits_all e n r n0, bitsV, h, if_neg (by decide), keyF, if_neg (by rw [h]; decide)]
    rfl
theorem IdentIs_walk (a0_0 : Bool) (a0_1 : Int) (a1 : Int) (a2 : ByteArray) (w : World) (w0_1 : (Lit.int .u32 a0_1).wf = true) (w1 : (Lit.int .u32 a1).wf = true) (w2 : a2.size ≤ 140737488351232) :
    Calls Try.prog 6 #[.agg #[.bool a0_0, .int .u32 a0_1], .int .u32 a1, .string a2] w fun e w' => e = .returned (.bool true) ∧ Below w.heap.size w w' := by
  have b0 := wf32 w0_1
  have b1 := wf32 w1
  by_cases hs : 100 < (a2.size : Int)
  · exact Is_long _ _ _ _ w (decide_eq_true hs)
  · exact Is_core 200 a0_0 a0_1 a1 a2 (ofV a1).1 (ofV a1).2.1 (ofV a1).2.2.1 (ofV a1).2.2.2 (parseV a2).1 (parseV a2).2.1 (parseV a2).2.2 (rightV a0_0 a0_1) (bits .and .u32 a1 1 == 1) (bitsV a0_0 a0_1 (bits .and .u32 a1 1 == 1)) (keyF a0_0 a0_1 (bits .and .u32 a1 1 == 1)) (textV a0_0 a0_1) w (decide_eq_false hs) rfl
      (Of_eq a1 b1.1 b1.2 200 (by omega)) (OfKey_eq a1 b1.1 b1.2) rfl (refParse_eq a2 200 (by omega)) (Right_eq _ _) (refRight_eq _ _ b0.1) (Bits_eq _ _ _ b0.1 200 (by omega)) (refBits_all _ _ _ b0.1) (bytes_same _ (bits_len _ _ _) 200 (by omega))
      (KeyF_eq _ _ _ b0.1) (refKey_all _ _ _ b0.1) (Text_eq _ _ b0.1 b0.2 200 (by omega)) (refText_eq _ _ b0.1 b0.2 200 (by omega))
end Go.Proofs.Ytcimnghmkhdolaa.P
