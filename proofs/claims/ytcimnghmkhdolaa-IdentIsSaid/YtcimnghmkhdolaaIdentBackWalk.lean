/- What a key, and a text, is of is the identifier again: the plain law and the walk, for every frame, key and text. No condition. -/
import Derived.Test.YtcimnghmkhdolaaIdentTextLib
namespace Go.Proofs.Ytcimnghmkhdolaa.P
open Go.RowKit Go.Proofs.YtcimnghmkhdolaaW.PrintWords Go.Proofs.YtcimnghmkhdolaaW.PrintLast Go.Proofs.YtcimnghmkhdolaaW.PrintMore
set_option linter.unusedVariables false
set_option linter.unusedSimpArgs false
theorem bt_list (s : ByteArray) (k : Nat) : bt s (k : Int) = ((s.data.toList.getD k 0).toNat : Int) := by
  unfold bt
  rw [Int.toNat_natCast]
  by_cases h : k < s.size
  · rw [dif_pos h, List.getD_eq_getElem?_getD, Array.getElem?_toList, Array.getElem?_eq_getElem (show k < s.data.size from h)]
    rfl
  · rw [dif_neg h, List.getD_eq_getElem?_getD, Array.getElem?_toList, Array.getElem?_eq_none (by show s.data.size ≤ k; have : s.data.size = s.size := rfl; omega)]
    rfl
theorem hexL_len (n : Int) : ∀ w, (hexL n w).length = w
  | 0 => rfl
  | w + 1 => by simp [hexL, hexL_len n w]
theorem hexL_get (n : Int) : ∀ (w k : Nat), k < w → (hexL n w).getD k 0 = hexs.data.getD (n / 2 ^ (4 * (w - 1 - k)) % 16).toNat 0
  | 0, k, h => by omega
  | w + 1, 0, h => by simp [hexL]
  | w + 1, k + 1, h => by
    rw [hexL, List.getD_cons_succ, hexL_get n w k (by omega), show w + 1 - 1 - (k + 1) = w - 1 - k by omega]
theorem hexs_get (d : Int) (d0 : 0 ≤ d) (d1 : d < 16) : ((hexs.data.getD d.toNat 0).toNat : Int) = hexAt d.toNat := hexs_all ⟨d.toNat, by omega⟩
theorem digV_hexAt (d : Int) (d0 : 0 ≤ d) (d1 : d < 16) : digV (hexAt d.toNat) = d := by
  unfold digV hexAt
  by_cases h : d.toNat < 10
  · rw [if_pos h, if_pos (by omega)]; omega
  · rw [if_neg h, if_neg (by omega), if_pos (by omega)]; omega
theorem hexAt_digV (c : Int) (h : 0 ≤ digV c) : hexAt (digV c).toNat = c ∧ digV c < 16 := by
  unfold digV at *
  by_cases h1 : 48 ≤ c ∧ c ≤ 57
  · rw [if_pos h1] at *
    unfold hexAt
    rw [if_pos (by omega)]
    omega
  · rw [if_neg h1] at *
    by_cases h2 : 97 ≤ c ∧ c ≤ 102
    · rw [if_pos h2] at *
      unfold hexAt
      rw [if_neg (by omega)]
      omega
    · rw [if_neg h2] at h; omega
theorem dig_text (n : Int) (s : ByteArray) (w : Nat) (hs : s.data.toList = hexL n w) (k : Nat) (hk : k < w) : digV (bt s (k : Int)) = n / 2 ^ (4 * (w - 1 - k)) % 16 := by
  rw [bt_list, hs, hexL_get n w k hk, hexs_get _ (by omega) (by omega), digV_hexAt _ (by omega) (by omega)]
theorem hexV_text (n : Int) (n0 : 0 ≤ n) (n1 : n < 4294967296) (s : ByteArray) (w : Nat) (hs : s.data.toList = hexL n w) (hw : n < 2 ^ (4 * w)) : ∀ k, k ≤ w → hexV s k = n / 2 ^ (4 * (w - k)) ∧ hexOk s k = true
  | 0, _ => ⟨by rw [hexV, Nat.sub_zero, Int.ediv_eq_zero_of_lt n0 hw], rfl⟩
  | k + 1, hk => by
    obtain ⟨i1, i2⟩ := hexV_text n n0 n1 s w hs hw k (by omega)
    have hd := dig_text n s w hs k (by omega)
    have e : w - k = (w - 1 - k) + 1 := by omega
    have p : n / 2 ^ (4 * (w - k)) = n / 2 ^ (4 * (w - 1 - k)) / 16 := by
      rw [e, Nat.mul_add, Int.pow_add, ← Int.ediv_ediv_of_nonneg (Int.le_of_lt (Int.pow_pos (by omega)))]
      rfl
    have q0 : 0 ≤ n / 2 ^ (4 * (w - 1 - k)) := Int.ediv_nonneg n0 (Int.le_of_lt (Int.pow_pos (by omega)))
    have q1 : n / 2 ^ (4 * (w - 1 - k)) ≤ n := Int.ediv_le_self _ n0
    constructor
    · rw [hexV, i1, hd, p, putN, show w - (k + 1) = w - 1 - k by omega]
      omega
    · show (hexOk s k && decide (0 ≤ digV (bt s k))) = true
      rw [i2, hd, decide_eq_true (by omega)]
      rfl
theorem size_list (s : ByteArray) : s.size = s.data.toList.length := rfl
theorem parse_text (e : Bool) (n : Int) (n0 : 0 ≤ n) (h : rightV e n = true) : parseV (textV e n) = (e, n, true) := by
  have n1 : n < 4294967296 := by
    cases e
    · have := right_std n0 h; omega
    · have := right_ext n0 h; omega
  have key : ∀ (s : ByteArray) (w : Nat), s.data.toList = hexL n w → (w = 3 ∨ w = 8) → ((w : Int) == 8) = e → n < 2 ^ (4 * w) → parseV s = (e, n, true) := fun s w hs hw he hlt => by
    have hz : s.size = w := by rw [size_list, hs, hexL_len]
    have hv := hexV_text n n0 n1 s w hs hlt w (Nat.le_refl _)
    rw [Nat.sub_self, Nat.mul_zero, Int.pow_zero, Int.ediv_one] at hv
    unfold parseV
    have h38 : (((w : Int) == 3) || e) = true := by
      rcases hw with rfl | rfl
      · rfl
      · rw [← he]; rfl
    rw [hz, he, hv.1, if_pos ⟨h38, hv.2, h⟩]
  unfold textV
  rw [if_pos h]
  cases e
  · have := right_std n0 h
    exact key _ 3 (by rw [if_neg (by decide), tx_list]; rfl) (.inl rfl) rfl (by have : (2 : Int) ^ (4 * 3) = 4096 := rfl; omega)
  · exact key _ 8 (by rw [if_pos rfl, tx_list]; rfl) (.inr rfl) rfl (by have : (2 : Int) ^ (4 * 8) = 4294967296 := rfl; omega)
theorem hexV_lt (s : ByteArray) : ∀ k, k ≤ 8 → hexV s k < 2 ^ (4 * k)
  | 0, _ => show (0 : Int) < 2 ^ (4 * 0) by decide
  | k + 1, hk => by
    have := hexV_lt s k (by omega)
    have e : (2 : Int) ^ (4 * (k + 1)) = 2 ^ (4 * k) * 16 := by rw [Nat.mul_add, Int.pow_add]; rfl
    have z := (hexV_range s k).1
    rw [hexV, putN, e]
    omega
theorem hexOk_all (s : ByteArray) : ∀ k, hexOk s k = true → ∀ i, i < k → 0 ≤ digV (bt s (i : Int))
  | 0, _, i, hi => by omega
  | k + 1, h, i, hi => by
    have h' : (hexOk s k && decide (0 ≤ digV (bt s k))) = true := h
    rw [Bool.and_eq_true, decide_eq_true_eq] at h'
    by_cases hk : i < k
    · exact hexOk_all s k h'.1 i hk
    · obtain rfl : i = k := by omega
      exact h'.2
theorem hexL_parse (s : ByteArray) (w : Nat) (hs : s.size = w) (hw : w ≤ 8) (hok : hexOk s w = true) : ∀ j, j ≤ w → hexV s w / 2 ^ (4 * j) = hexV s (w - j) ∧ hexL (hexV s w) j = s.data.toList.drop (w - j)
  | 0, _ => ⟨by simp, by rw [hexL, List.drop_of_length_le (by rw [← size_list]; omega)]⟩
  | j + 1, hj => by
    obtain ⟨i1, i2⟩ := hexL_parse s w hs hw hok j (by omega)
    obtain ⟨m, hm⟩ : ∃ m, w - j = m + 1 := ⟨w - j - 1, by omega⟩
    have hm' : w - (j + 1) = m := by omega
    have lt := hexV_lt s m (by omega)
    have z := (hexV_range s m).1
    have p : (2 : Int) ^ (4 * m) ≤ 2 ^ 28 := by
      have := Nat.pow_le_pow_right (n := 2) (by omega) (show 4 * m ≤ 28 by omega)
      exact_mod_cast this
    have p28 : (2 : Int) ^ 28 = 268435456 := rfl
    have hd := hexOk_all s w hok m (by omega)
    have hx := hexAt_digV _ hd
    rw [hm, hexV, putN] at i1
    have e : (2 : Int) ^ (4 * (j + 1)) = 2 ^ (4 * j) * 16 := by rw [Nat.mul_add, Int.pow_add]; rfl
    have hmod : hexV s w / 2 ^ (4 * j) % 16 = digV (bt s (m : Int)) := by rw [i1]; omega
    have hlt : m < s.data.toList.length := by rw [← size_list]; omega
    constructor
    · rw [e, ← Int.ediv_ediv_of_nonneg (Int.le_of_lt (Int.pow_pos (by omega))), i1, hm']
      omega
    · rw [hexL, hmod, i2, hm, hm', List.drop_eq_getElem_cons hlt]
      congr 1
      have hb := bt_list s m
      rw [List.getD_eq_getElem?_getD, List.getElem?_eq_getElem hlt] at hb
      have hb' : bt s (m : Int) = ((s.data.toList[m]).toNat : Int) := hb
      have hg := ((hexs_get _ hd hx.2).trans hx.1).trans hb'
      apply UInt8.toNat_inj.1
      exact Int.ofNat.inj hg
theorem text_parse (s : ByteArray) (h : (parseV s).2.2 = true) : textV (parseV s).1 (parseV s).2.1 = s := by
  unfold parseV at *
  by_cases c : ((s.size : Int) == 3 || (s.size : Int) == 8) = true ∧ hexOk s s.size = true ∧ rightV ((s.size : Int) == 8) (hexV s s.size) = true
  · rw [if_pos c] at *
    obtain ⟨c1, c2, c3⟩ := c
    show textV ((s.size : Int) == 8) (hexV s s.size) = s
    rw [Bool.or_eq_true, beq_iff_eq, beq_iff_eq] at c1
    have hl := (hexL_parse s s.size rfl (by omega) c2 s.size (Nat.le_refl _)).2
    rw [Nat.sub_self, List.drop_zero] at hl
    unfold textV
    rw [if_pos c3]
    have ext : ∀ t : ByteArray, t.data.toList = s.data.toList → t = s := fun t ht => by
      cases t; cases s
      simp at ht
      rw [ht]
    rcases c1 with h3 | h8
    · have h3' : s.size = 3 := by omega
      rw [h3] at *
      rw [h3'] at hl ⊢
      rw [if_neg (by decide)]
      exact ext _ (by rw [tx_list]; exact hl)
    · have h8' : s.size = 8 := by omega
      rw [h8] at *
      rw [h8'] at hl ⊢
      rw [if_pos (by decide)]
      exact ext _ (by rw [tx_list]; exact hl)
  · rw [if_neg c] at h
    cases h
theorem ofV_range (x : Int) (x0 : 0 ≤ x) : 0 ≤ (ofV x).2.1 := by
  have c0 : 0 ≤ ofC x := by unfold ofC; omega
  have b0 : 0 ≤ x / 2097152 := by omega
  unfold ofV
  repeat' split
  all_goals first | exact b0 | exact c0 | exact Int.le_refl _
theorem parseV_range (s : ByteArray) : 0 ≤ (parseV s).2.1 ∧ (parseV s).2.1 < 4294967296 := by
  unfold parseV
  split
  · exact hexV_range s s.size
  · exact ⟨Int.le_refl _, by show (0 : Int) < 4294967296; omega⟩
theorem back_end (x : Int) (s : ByteArray) (x0 : 0 ≤ x) (x1 : x < 4294967296) (k : Nat) (hk : 20 ≤ k) : bellbuoylaw05_IdentBack.j0 k x s = some true := by
  obtain ⟨k, rfl⟩ : ∃ j, k = j + 1 := ⟨k - 1, by omega⟩
  have pr := parseV_range s
  have text : (if (parseV s).2.2 = true then ((ident_Text.f k (parseV s).1 (parseV s).2.1).bind fun t289 => (some (t289.toList == s.toList))) else (some true)) = some true := by
    by_cases hp : (parseV s).2.2 = true
    · rw [if_pos hp, Text_eq _ _ pr.1 pr.2 k (by omega), text_parse s hp]
      simp
    · rw [if_neg hp]
  rw [bellbuoylaw05_IdentBack.j0, Of_eq x x0 x1 k (by omega)]
  simp only [Option.bind_some, ident_Parse.f, bellbuoylaw05_live.f, if_true]
  by_cases ho : (ofV x).2.2.2 = true
  · rw [if_pos ho, KeyF_eq _ _ _ (ofV_range x x0), ofV_ok x ho]
    simp only [Option.bind_some, if_true]
    exact text
  · rw [if_neg ho]
    exact text
theorem IdentBack_walk (a0_0 : Bool) (a0_1 : Int) (a0_2 : Bool) (a1 : Int) (a2 : ByteArray) (w : World) (w0_1 : (Lit.int .u32 a0_1).wf = true) (w1 : (Lit.int .u32 a1).wf = true) (w2 : a2.size ≤ 140737488351232) :
    Calls Try.prog 7 #[.agg #[.bool a0_0, .int .u32 a0_1, .bool a0_2], .int .u32 a1, .string a2] w fun e w' => e = .returned (.bool true) ∧ Below w.heap.size w w' := by
  have b0 := wf32 w0_1
  have b1 := wf32 w1
  refine bellbuoylaw05_IdentBack.calls 200 a0_0 a0_1 a0_2 a1 a2 true w ?_
  unfold bellbuoylaw05_IdentBack.f
  by_cases hs : (a2.size : Int) > 100
  · rw [if_pos hs]; rfl
  rw [if_neg hs, refRight_eq _ _ b0.1]
  simp only [Option.bind_some]
  have fin := back_end a1 a2 b1.1 b1.2 200 (by omega)
  cases h : rightV a0_0 a0_1 with
  | false => exact fin
  | true =>
    have kr := keyV_range a0_2 b0.1 h
    rw [if_pos rfl, Key_eq _ _ a0_2 b0.1 h]
    simp only [Option.bind_some]
    rw [Of_eq _ kr.1 kr.2 200 (by omega), Text_eq _ _ b0.1 b0.2 200 (by omega), ofV_key _ _ _ b0.1 h]
    simp only [Option.bind_some, ident_Parse.f, parse_text _ _ b0.1 h, beq_self_eq_true, Bool.not_true, Bool.or_self, Bool.false_eq_true, if_false, if_true, bne_self_eq_false]
    exact fin
end Go.Proofs.Ytcimnghmkhdolaa.P
