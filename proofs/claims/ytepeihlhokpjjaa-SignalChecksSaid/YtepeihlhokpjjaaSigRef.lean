/- The document's places and shared bits are the program's; what was put is got. Conditions: those that each lemma names. -/
import Derived.Test.YtepeihlhokpjjaaSigBits
namespace Go.Proofs.Ytepeihlhokpjjaa.P
open Go.RowKit Go.Proofs.YtepeihlhokpjjaaW.PrintWords Go.Proofs.YtepeihlhokpjjaaW.PrintLast Go.Proofs.YtepeihlhokpjjaaW.PrintMore
set_option linter.unusedVariables false
set_option linter.unusedSimpArgs false
/-! ### No bit twice -/
def posB (big : Bool) (a : Int) : Int := if big = true then 8 * (a / 8) + (7 - a % 8) else a
theorem pos_next (big : Bool) {a : Int} (h : 0 ≤ a) : posB big (nextAt big a) = posB big a + 1 := by
  unfold posB nextAt
  cases big
  · simp
  · simp only [if_true]
    rw [Int.tmod_eq_emod_of_nonneg h]
    split <;> omega
theorem goL_nodup (big : Bool) : ∀ (k : Nat) (a : Int), (goL big k a).Nodup ∧ ∀ x ∈ goL big k a, posB big a ≤ posB big x
  | 0, _ => ⟨List.nodup_nil, fun x h => by cases h⟩
  | k + 1, a => by
    unfold goL
    split
    · next ha =>
      have ih := goL_nodup big k (nextAt big a)
      rw [pos_next big ha.1] at ih
      refine ⟨List.nodup_cons.2 ⟨fun h => by have := ih.2 a h; omega, ih.1⟩, fun x h => ?_⟩
      rcases List.mem_cons.1 h with rfl | h
      · exact Int.le_refl _
      · have := ih.2 x h
        omega
    · exact ⟨List.nodup_nil, fun x h => by cases h⟩
theorem placesV_nodup (s : Sg) : (placesV s).Nodup := by
  unfold placesV
  split
  · exact List.nodup_nil
  · split
    · have := (goL_nodup s.big (cnt s.ln).toNat s.st).1
      exact List.pairwise_reverse.2 (this.imp (fun h => h.symm))
    · exact (goL_nodup s.big (cnt s.ln).toNat s.st).1
/-! ### What was put is got -/
theorem put_get {d : List Int} (h : Byts d) {s : Sg} {raw : Int} (hf : fitsV s raw = true) : getV (putV d s raw).1 s = raw := by
  unfold fitsV at hf
  simp only [Bool.and_eq_true, Bool.not_eq_true', decide_eq_true_eq] at hf
  obtain ⟨hb, hr⟩ := hf
  have e : putV d s raw = (putL raw (placesV s) 0 d, 0) := by
    unfold putV
    rw [if_neg (by rw [hb]; simp), if_pos (by unfold fitsV; rw [hb]; simpa using hr)]
  rw [e]
  have g := good_ln hb
  have hl := placesV_good hb
  have pv := putL_val raw (placesV s) 0 d h (placesV_range s) (placesV_nodup s) (by have := placesV_len s; omega)
  rw [getV_eq (putL_other raw _ 0 d h (placesV_range s)).1, pv]
  obtain ⟨n, hn⟩ : ∃ n, (placesV s).length = n + 1 := ⟨(placesV s).length - 1, by omega⟩
  have hP : (0 : Int) < 2 ^ n := Int.pow_pos (by omega)
  unfold rangeV at hr
  rw [hb] at hr
  simp only [Bool.false_eq_true, if_false] at hr
  rw [hn, Int.pow_zero, Int.ediv_one]
  cases hs : s.sgn
  · rw [hs, show s.ln.toNat = n + 1 by omega] at hr
    simp only [Bool.false_eq_true, if_false] at hr
    unfold sgnV
    rw [if_neg (by simp)]
    exact Int.emod_eq_of_lt hr.1 (by omega)
  · rw [hs, show (s.ln - 1).toNat = n by omega] at hr
    simp only [if_true] at hr
    unfold sgnV
    rw [Int.pow_succ]
    by_cases h0 : 0 ≤ raw
    · rw [Int.emod_eq_of_lt h0 (by omega), if_neg (by omega)]
    · have e2 : raw % (2 ^ n * 2) = raw + 2 ^ n * 2 := by
        rw [← Int.add_mul_emod_self_left raw (2 ^ n * 2) 1, Int.mul_one]
        exact Int.emod_eq_of_lt (by omega) (by omega)
      rw [e2, if_pos ⟨rfl, by omega, by omega⟩]
      omega
theorem putV_byts {d : List Int} (h : Byts d) (s : Sg) (raw : Int) : Byts (putV d s raw).1 := by
  have hz : Byts zeros8 := ⟨rfl, by decide⟩
  unfold putV
  split
  · exact hz
  · split
    · exact (putL_other raw _ 0 d h (placesV_range s)).1
    · exact hz
/-- A signal that shares no bit is as it was. -/
theorem put_other {d : List Int} (h : Byts d) {s t : Sg} {raw : Int} (hf : fitsV s raw = true) (hd : ∀ a ∈ placesV t, a ∉ placesV s) : getV (putV d s raw).1 t = getV d t := by
  have hb : badS s = false := by
    unfold fitsV at hf
    simp only [Bool.and_eq_true, Bool.not_eq_true'] at hf
    exact hf.1
  have e : putV d s raw = (putL raw (placesV s) 0 d, 0) := by
    unfold putV
    rw [if_neg (by rw [hb]; simp), if_pos hf]
  have o := putL_other raw (placesV s) 0 d h (placesV_range s)
  rw [e, getV_eq o.1, getV_eq h]
  rw [valL_congr (fun a ha => o.2 a (placesV_range t a ha).1 (placesV_range t a ha).2 (hd a ha))]
/-! ### The document's places -/
theorem P_l1 (l : List Int) (hl : l.length ≤ 64) (s0 s1 : Int) : ∀ (n k : Nat) (acc : List Int), n ≤ l.length → acc.length + n ≤ 64 → bellbuoyref37_Places.l1 (n + 1 + k) l acc ((n : Int) - 1) = some (acc ++ (l.take n).reverse)
  | 0, k, acc, _, _ => by
    rw [show 0 + 1 + k = k + 1 by omega]
    unfold bellbuoyref37_Places.l1
    rw [if_neg (by omega)]
    simp
  | n + 1, k, acc, hn, ha => by
    rw [show n + 1 + 1 + k = (n + 1 + k) + 1 by omega]
    unfold bellbuoyref37_Places.l1
    have e : (((n + 1 : Nat) : Int) - 1) = (n : Int) := by omega
    rw [e, if_pos (by omega), if_pos (by omega), if_pos (by omega), if_pos (by omega), wr_small _ (by omega) (by omega)]
    rw [P_l1 l hl s0 s1 n k _ (by omega) (by rw [List.length_append]; simp; omega)]
    congr 1
    have hlt : n < l.length := by omega
    have hr : rd l (n : Int) = l[n] := by simp [rd, hlt]
    rw [hr, List.take_add_one, List.getElem?_eq_getElem hlt]
    simp only [Option.toList_some, List.reverse_append, List.reverse_cons, List.reverse_nil, List.nil_append, List.cons_append, List.append_assoc]
def finP (big : Bool) (o : List Int) : List Int := if big = true then o.reverse else o
theorem P_l0 (s : Sg) (h0 : 0 ≤ s.ln) (h64 : s.ln ≤ 64) : ∀ (m : Nat) (out : List Int) (at_ : Int), (out.length : Int) + m = s.ln → -1000 ≤ at_ ∧ at_ ≤ 1000 ∨ (at_ < 0 ∨ at_ > 63) →
    bellbuoyref37_Places.l0 (2 * m + 70) out at_ (out.length : Int) s.st s.ln s.big s.sgn s.sc s.off = some (if (goL s.big m at_).length = m then finP s.big (out ++ goL s.big m at_) else [])
  | 0, out, at_, hm, _ => by
    have e : (2 * 0 + 70) = 69 + 1 := rfl
    rw [e]
    unfold bellbuoyref37_Places.l0
    rw [if_neg (by omega)]
    simp only [goL, List.length_nil, if_true, List.append_nil]
    unfold finP
    by_cases hb : s.big = true
    · rw [if_pos hb, if_pos hb, wr_small _ (by omega) (by omega)]
      have := P_l1 out (by omega) 0 0 out.length (69 - out.length - 1) [] (Nat.le_refl _) (by simp; omega)
      rw [show out.length + 1 + (69 - out.length - 1) = 69 by omega] at this
      rw [this]
      simp
    · rw [if_neg hb, if_neg hb]
  | m + 1, out, at_, hm, ha => by
    have e : 2 * (m + 1) + 70 = (2 * m + 70) + 1 + 1 := by omega
    rw [e]
    unfold bellbuoyref37_Places.l0
    rw [if_pos (by omega)]
    by_cases hr : 0 ≤ at_ ∧ at_ < 64
    · rw [if_neg (by omega), decide_eq_false (by omega)]
      unfold bellbuoyref37_Places.j1
      rw [if_neg (by simp), if_pos (by omega)]
      simp only [Option.bind_some]
      have el : wrap64 ((out.length : Int) + 1) = ((out ++ [at_]).length : Int) := by rw [wr_small _ (by omega) (by omega), List.length_append]; rfl
      rw [wr_small (at_ + 15) (by omega) (by omega), wr_small (at_ - 1) (by omega) (by omega), wr_small (at_ + 1) (by omega) (by omega), el]
      have ih := fun x hx => P_l0 s h0 h64 m (out ++ [at_]) x (by rw [List.length_append]; simp; omega) (.inl hx)
      have eg : goL s.big (m + 1) at_ = at_ :: goL s.big m (nextAt s.big at_) := by
        show (if 0 ≤ at_ ∧ at_ < 64 then _ else _) = _
        rw [if_pos hr]
      have key : ∀ x, nextAt s.big at_ = x → -1000 ≤ x ∧ x ≤ 1000 → bellbuoyref37_Places.l0 (2 * m + 70) (out ++ [at_]) x ((out ++ [at_]).length : Int) s.st s.ln s.big s.sgn s.sc s.off = some (if (goL s.big (m + 1) at_).length = m + 1 then finP s.big (out ++ goL s.big (m + 1) at_) else []) := by
        intro x hx hxr
        rw [ih x hxr, eg, hx]
        simp only [List.length_cons, Nat.add_right_cancel_iff, List.append_assoc, List.cons_append, List.nil_append]
      by_cases hb : s.big = true
      · rw [if_pos hb]
        by_cases hz : Int.tmod at_ 8 = 0
        · rw [if_pos hz]
          exact key _ (by unfold nextAt; rw [if_pos hb, if_pos hz]) (by omega)
        · rw [if_neg hz]
          exact key _ (by unfold nextAt; rw [if_pos hb, if_neg hz]) (by omega)
      · rw [if_neg hb]
        exact key _ (by unfold nextAt; rw [if_neg hb]) (by omega)
    · have eg : goL s.big (m + 1) at_ = [] := by
        show (if 0 ≤ at_ ∧ at_ < 64 then _ else _) = _
        rw [if_neg hr]
      have e2 : (if (goL s.big (m + 1) at_).length = m + 1 then finP s.big (out ++ goL s.big (m + 1) at_) else []) = [] := by
        rw [eg]
        exact if_neg (by simp)
      rw [e2]
      by_cases hn : at_ < 0
      · rw [if_pos hn]
        unfold bellbuoyref37_Places.j1
        rw [if_pos rfl]
      · rw [if_neg hn, decide_eq_true (by omega)]
        unfold bellbuoyref37_Places.j1
        rw [if_pos rfl]
def wholeV (s : Sg) : Bool := decide (1 ≤ s.ln) && (decide (s.ln ≤ 63) || (decide (s.ln = 64) && s.sgn)) && (s.sc != 0)
theorem whole_eq (s : Sg) : bellbuoyref37_whole.f s.st s.ln s.big s.sgn s.sc s.off = some (wholeV s) := by
  unfold bellbuoyref37_whole.f wholeV
  by_cases h1 : s.ln ≥ 1
  · rw [if_pos h1, decide_eq_true (show 1 ≤ s.ln from h1)]
    by_cases h2 : s.ln ≤ 63
    · rw [if_pos h2, decide_eq_true h2]
      simp
    · rw [if_neg h2, decide_eq_false h2]
      by_cases h3 : s.ln = 64
      · rw [if_pos h3, decide_eq_true h3]
        cases s.sgn <;> simp
      · rw [if_neg h3, decide_eq_false h3]
        simp
  · rw [if_neg h1, decide_eq_false (show ¬ 1 ≤ s.ln from h1)]
    simp
theorem RPlaces_eq (s : Sg) : bellbuoyref37_Places.f 198 s.st s.ln s.big s.sgn s.sc s.off = some (placesV s) := by
  unfold bellbuoyref37_Places.f
  rw [whole_eq]
  simp only [Option.bind_some]
  cases hw : wholeV s
  · rw [if_neg (by simp)]
    congr 1
    symm
    refine placesV_nil.2 ?_
    cases hb : badS s
    · exfalso
      have g := good_ln hb
      have : wholeV s = true := by
        unfold wholeV
        simp only [Bool.and_eq_true, Bool.or_eq_true, decide_eq_true_eq, bne_iff_ne, ne_eq]
        refine ⟨⟨g.1, ?_⟩, g.2.2.2.1⟩
        cases hs : s.sgn
        · exact .inl (g.2.2.1 hs)
        · by_cases h63 : s.ln ≤ 63
          · exact .inl h63
          · exact .inr ⟨by omega, rfl⟩
      rw [this] at hw
      cases hw
    · rfl
  · rw [if_pos rfl]
    unfold wholeV at hw
    simp only [Bool.and_eq_true, Bool.or_eq_true, decide_eq_true_eq, bne_iff_ne, ne_eq] at hw
    obtain ⟨⟨h1, h2⟩, h3⟩ := hw
    have h64 : s.ln ≤ 64 := by omega
    obtain ⟨m, hm⟩ : ∃ m : Nat, (m : Int) = s.ln := ⟨s.ln.toNat, by omega⟩
    have hk : 198 = 2 * m + 70 + (128 - 2 * m) := by omega
    have hc : (cnt s.ln).toNat = m := by unfold cnt mx mn; (repeat' split) <;> omega
    have hwl : walkL s = goL s.big m s.st := by unfold walkL; rw [hc]
    have base := P_l0 s (by omega) h64 m [] s.st (by simpa using hm) (by omega)
    have lift : ∀ (e k : Nat) (r : List Int), bellbuoyref37_Places.l0 k [] s.st 0 s.st s.ln s.big s.sgn s.sc s.off = some r → bellbuoyref37_Places.l0 (k + e) [] s.st 0 s.st s.ln s.big s.sgn s.sc s.off = some r := by
      intro e
      induction e with
      | zero => exact fun k r h => h
      | succ e ih => exact fun k r h => (bellbuoyref37_Places.mono_l (k + e)).1 _ _ _ _ _ _ _ _ _ r (ih k r h)
    rw [hk, lift _ _ _ base]
    congr 1
    unfold placesV finP badS
    rw [hwl]
    simp only [List.nil_append]
    have d1 : decide (s.ln < 1) = false := decide_eq_false (by omega)
    have d2 : decide (s.ln > (if s.sgn = true then 64 else 63)) = false := decide_eq_false (by
      split
      · omega
      · next hs =>
        rcases h2 with h2 | h2
        · omega
        · exact absurd h2.2 hs)
    have d3 : (s.sc == 0) = false := by simpa using h3
    rw [d1, d2, d3]
    simp only [Bool.false_or]
    by_cases hl : (goL s.big m s.st).length = m
    · have d4 : (((goL s.big m s.st).length : Int) != s.ln) = false := by
        simp only [bne_eq_false_iff_eq]
        omega
      rw [if_pos hl, d4]
      simp only [Bool.false_eq_true, if_false]
    · have d4 : (((goL s.big m s.st).length : Int) != s.ln) = true := by
        simp only [bne_iff_ne, ne_eq]
        omega
      rw [if_neg hl, d4]
      simp only [if_true]
end Go.Proofs.Ytepeihlhokpjjaa.P
