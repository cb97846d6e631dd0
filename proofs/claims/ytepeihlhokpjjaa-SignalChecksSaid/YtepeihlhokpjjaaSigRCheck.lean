/- The document's check and shared bits are the program's. Conditions: those that each lemma names. -/
import Derived.Test.YtepeihlhokpjjaaSigPacksPlain
import Derived.Test.YtepeihlhokpjjaaSigRWorth
namespace Go.Proofs.Ytepeihlhokpjjaa.P
open Go.RowKit Go.Proofs.YtepeihlhokpjjaaW.PrintWords Go.Proofs.YtepeihlhokpjjaaW.PrintLast Go.Proofs.YtepeihlhokpjjaaW.PrintMore
set_option linter.unusedVariables false
set_option linter.unusedSimpArgs false
theorem take_val : ∀ (l : List Int) (t : List Bool) (f : Bool), l.Nodup → (∀ a ∈ l, 0 ≤ a ∧ a < 64) → (takeL l t f).2 = (f && l.all (fun a => !t.getD a.toNat false))
  | [], t, f, _, _ => by simp [takeL]
  | a :: r, t, f, hn, hl => by
    have nd := List.nodup_cons.1 hn
    have a0 := hl a List.mem_cons_self
    show (takeL r (t.set a.toNat true) (f && !t.getD a.toNat false)).2 = _
    rw [take_val r _ _ nd.2 (fun b hb => hl b (List.mem_cons_of_mem _ hb)), List.all_cons, Bool.and_assoc]
    congr 2
    rw [Bool.eq_iff_iff, List.all_eq_true, List.all_eq_true]
    have key : ∀ b ∈ r, (t.set a.toNat true).getD b.toNat false = t.getD b.toNat false := fun b hb => by
      have b0 := hl b (List.mem_cons_of_mem _ hb)
      rw [getD_set, if_neg]
      intro h
      have : a = b := by omega
      exact nd.1 (by rw [this]; exact hb)
    exact ⟨fun h b hb => by rw [← key b hb]; exact h b hb, fun h b hb => by rw [key b hb]; exact h b hb⟩
theorem take_get : ∀ (l : List Int) (t : List Bool) (f : Bool) (j : Nat), j < t.length → (takeL l t f).1.getD j false = (t.getD j false || l.any (fun a => a.toNat == j))
  | [], t, f, j, _ => by simp [takeL]
  | a :: r, t, f, j, hj => by
    show (takeL r (t.set a.toNat true) (f && !t.getD a.toNat false)).1.getD j false = _
    rw [take_get r _ _ j (by rw [List.length_set]; exact hj), getD_set, List.any_cons]
    by_cases h : a.toNat = j
    · rw [if_pos ⟨h, hj⟩]
      simp [h]
    · have e : (a.toNat == j) = false := by simpa using h
      rw [if_neg (fun q => h q.1), e, Bool.false_or]
/-- What is taken: the bits of some signals. -/
def Taken (l : List S23) (t : List Bool) : Prop := t.length = 64 ∧ ∀ a : Int, 0 ≤ a → a < 64 → t.getD a.toNat false = l.any (fun x => (placesV (Sg.of x)).any (fun b => b == a))
theorem taken_nil : Taken [] free64 := by
  refine ⟨by decide, fun a h0 h1 => ?_⟩
  unfold free64
  rw [List.getD_eq_getElem?_getD, List.getElem?_replicate]
  split <;> rfl
theorem any_toNat {s : Sg} {a : Int} (h0 : 0 ≤ a) : (placesV s).any (fun b => b.toNat == a.toNat) = (placesV s).any (fun b => b == a) := by
  rw [Bool.eq_iff_iff, List.any_eq_true, List.any_eq_true]
  constructor
  · rintro ⟨b, hb, h⟩
    have := placesV_range s b hb
    exact ⟨b, hb, by simp at h ⊢; omega⟩
  · rintro ⟨b, hb, h⟩
    exact ⟨b, hb, by simp at h ⊢; rw [h]⟩
theorem taken_snoc {l : List S23} {t : List Bool} (h : Taken l t) (x : S23) : Taken (l ++ [x]) (takeV t (Sg.of x)).1 := by
  refine ⟨by unfold takeV; rw [takeL_len]; exact h.1, fun a h0 h1 => ?_⟩
  unfold takeV
  rw [take_get _ _ _ _ (by rw [h.1]; omega), h.2 a h0 h1, List.any_append, any_toNat h0]
  simp
theorem taken_free {l : List S23} {t : List Bool} (h : Taken l t) (x : S23) : (takeV t (Sg.of x)).2 = !l.any (fun y => rmeetV (Sg.of y) (Sg.of x)) := by
  unfold takeV
  rw [take_val _ _ _ (placesV_nodup _) (placesV_range _), Bool.true_and]
  rw [Bool.eq_iff_iff, List.all_eq_true, Bool.not_eq_true', List.any_eq_false]
  constructor
  · intro hf y hy hm
    unfold rmeetV at hm
    rw [List.any_eq_true] at hm
    obtain ⟨a, ha, hb⟩ := hm
    rw [List.any_eq_true] at hb
    obtain ⟨b, hb, hab⟩ := hb
    have hab : a = b := by simpa using hab
    subst hab
    have hr := placesV_range _ a hb
    have := hf a hb
    rw [h.2 a hr.1 hr.2] at this
    simp only [Bool.not_eq_true', List.any_eq_false] at this
    have := this y hy
    exact this (List.any_eq_true.2 ⟨a, ha, by simp⟩)
  · intro hf a ha
    have hr := placesV_range _ a ha
    rw [h.2 a hr.1 hr.2, Bool.not_eq_true', List.any_eq_false]
    intro y hy hq
    rw [List.any_eq_true] at hq
    obtain ⟨b, hb, hab⟩ := hq
    refine hf y hy ?_
    unfold rmeetV
    exact List.any_eq_true.2 ⟨b, hb, List.any_eq_true.2 ⟨a, ha, hab⟩⟩
theorem meet_same (a b : S23) : meetV (Sg.of a) (Sg.of b) = rmeetV (Sg.of a) (Sg.of b) := by
  unfold meetV
  rw [taken_free (l := [a]) (by have := taken_snoc taken_nil a; simpa using this) b]
  simp
theorem liftP {s : Sg} (k : Nat) : bellbuoyref37_Places.f (198 + k) s.st s.ln s.big s.sgn s.sc s.off = some (placesV s) :=
  liftO (f := fun k => bellbuoyref37_Places.f k s.st s.ln s.big s.sgn s.sc s.off) (fun k => bellbuoyref37_Places.mono _ _ _ _ _ _ k) k 198 (RPlaces_eq s)
theorem R_l2 (l : List S23) (b : Int) (hl : l.length ≤ 64) (i : Nat) (hi : i < l.length) (r : Int × Int) (hr : ∃ k, bellbuoyref37_Check.l0 k l b (wrap64 ((i : Int) + 1)) = some r) : ∀ (m j : Nat), j + m = i → ∃ k, bellbuoyref37_Check.l2 k l b (i : Int) (j : Int) = some (if ((l.take i).drop j).any (fun x => rmeetV (Sg.of x) (Sg.of (rd_T23 l (i : Int)))) = true then ((i : Int), 13) else r)
  | 0, j, hm => by
    obtain ⟨k, hk⟩ := hr
    refine ⟨k + 1, ?_⟩
    unfold bellbuoyref37_Check.l2
    rw [if_neg (by omega), hk, List.drop_of_length_le (by rw [List.length_take]; omega)]
    rfl
  | m + 1, j, hm => by
    obtain ⟨k, hk⟩ := R_l2 l b hl i hi r hr m (j + 1) (by omega)
    obtain ⟨k2, hk2⟩ := RMeet_eq (Sg.of (rd_T23 l (j : Int))) (Sg.of (rd_T23 l (i : Int)))
    refine ⟨(k + k2) + 1, ?_⟩
    unfold bellbuoyref37_Check.l2
    rw [if_pos (by omega), if_pos (by omega), if_pos (by omega), if_pos (by omega), if_pos (by omega)]
    have hm2 : bellbuoyref37_Meet.f (k2 + k) (rd_T23 l (j : Int)).f0 (rd_T23 l (j : Int)).f1 (rd_T23 l (j : Int)).f2 (rd_T23 l (j : Int)).f3 (rd_T23 l (j : Int)).f4 (rd_T23 l (j : Int)).f5 (rd_T23 l (i : Int)).f0 (rd_T23 l (i : Int)).f1 (rd_T23 l (i : Int)).f2 (rd_T23 l (i : Int)).f3 (rd_T23 l (i : Int)).f4 (rd_T23 l (i : Int)).f5 = some (rmeetV (Sg.of (rd_T23 l (j : Int))) (Sg.of (rd_T23 l (i : Int)))) :=
      liftO (f := fun k => bellbuoyref37_Meet.f k (rd_T23 l (j : Int)).f0 (rd_T23 l (j : Int)).f1 (rd_T23 l (j : Int)).f2 (rd_T23 l (j : Int)).f3 (rd_T23 l (j : Int)).f4 (rd_T23 l (j : Int)).f5 (rd_T23 l (i : Int)).f0 (rd_T23 l (i : Int)).f1 (rd_T23 l (i : Int)).f2 (rd_T23 l (i : Int)).f3 (rd_T23 l (i : Int)).f4 (rd_T23 l (i : Int)).f5) (fun k => bellbuoyref37_Meet.mono _ _ _ _ _ _ _ _ _ _ _ _ k) k k2 hk2
    rw [Nat.add_comm k k2, hm2]
    simp only [Option.bind_some]
    have hj : j < (l.take i).length := by rw [List.length_take]; omega
    have ed : (l.take i).drop j = rd_T23 l (j : Int) :: (l.take i).drop (j + 1) := by
      rw [List.drop_eq_getElem_cons hj]
      congr 1
      have : j < l.length := by omega
      simp [rd_T23, this]
    rw [ed, List.any_cons, show wrap64 ((j : Int) + 1) = ((j + 1 : Nat) : Int) by rw [wr_small _ (by omega) (by omega)]; rfl]
    have hk' : bellbuoyref37_Check.l2 (k2 + k) l b (i : Int) ((j + 1 : Nat) : Int) = some (if ((l.take i).drop (j + 1)).any (fun x => rmeetV (Sg.of x) (Sg.of (rd_T23 l (i : Int)))) = true then ((i : Int), 13) else r) := by
      rw [Nat.add_comm k2 k]
      exact liftO (f := fun k => bellbuoyref37_Check.l2 k l b (i : Int) ((j + 1 : Nat) : Int)) (fun k => (bellbuoyref37_Check.mono_l k).2.2.2 _ _ _ _) k2 k hk
    rw [hk']
    cases rmeetV (Sg.of (rd_T23 l (j : Int))) (Sg.of (rd_T23 l (i : Int)))
    · simp
    · simp
theorem R_l1 (l : List S23) (b : Int) (b0 : 0 ≤ b) (b8 : b ≤ 8) (i : Nat) (p : List Int) (hp : p.length ≤ 64) (r : Int × Int) (hr : ∃ k, bellbuoyref37_Check.l2 k l b (i : Int) 0 = some r) : ∀ (m j : Nat), j + m = p.length → ∃ k, bellbuoyref37_Check.l1 k l b (i : Int) p (j : Int) = some (if (p.drop j).any (fun x => decide (x ≥ 8 * b)) = true then ((i : Int), 1) else r)
  | 0, j, hm => by
    obtain ⟨k, hk⟩ := hr
    refine ⟨k + 1, ?_⟩
    unfold bellbuoyref37_Check.l1
    rw [if_neg (by omega), hk, List.drop_of_length_le (by omega)]
    rfl
  | m + 1, j, hm => by
    obtain ⟨k, hk⟩ := R_l1 l b b0 b8 i p hp r hr m (j + 1) (by omega)
    refine ⟨k + 1, ?_⟩
    have hj : j < p.length := by omega
    unfold bellbuoyref37_Check.l1
    rw [if_pos (by omega), if_pos (by omega), wr_small (8 * b) (by omega) (by omega), drop_rd hj, List.any_cons]
    by_cases h : rd p (j : Int) ≥ 8 * b
    · rw [if_pos h, decide_eq_true h]
      simp
    · rw [if_neg h, decide_eq_false h, show wrap64 ((j : Int) + 1) = ((j + 1 : Nat) : Int) by rw [wr_small _ (by omega) (by omega)]; rfl, hk, Bool.false_or]
theorem R_l0 (l : List S23) (b : Int) (b0 : 0 ≤ b) (b8 : b ≤ 8) (hl : l.length ≤ 64) : ∀ (m i : Nat) (t : List Bool), i + m = l.length → Taken (l.take i) t → ∃ k, bellbuoyref37_Check.l0 k l b (i : Int) = some (checkL b (l.drop i) i t)
  | 0, i, t, hm, _ => by
    refine ⟨1, ?_⟩
    unfold bellbuoyref37_Check.l0
    rw [if_neg (by omega), List.drop_of_length_le (by omega)]
    unfold checkL
    rw [show l.length = i by omega]
  | m + 1, i, t, hm, ht => by
    have hi : i < l.length := by omega
    have et : l.take (i + 1) = l.take i ++ [rd_T23 l (i : Int)] := by
      rw [List.take_add_one, List.getElem?_eq_getElem hi]
      have : rd_T23 l (i : Int) = l[i] := by simp [rd_T23, hi]
      rw [this]
      rfl
    have ht2 := taken_snoc ht (rd_T23 l (i : Int))
    rw [← et] at ht2
    obtain ⟨k, hk⟩ := R_l0 l b b0 b8 hl m (i + 1) _ (by omega) ht2
    have e1 : wrap64 ((i : Int) + 1) = ((i + 1 : Nat) : Int) := by rw [wr_small _ (by omega) (by omega)]; rfl
    obtain ⟨k2, hk2⟩ := R_l2 l b hl i hi _ ⟨k, by rw [e1]; exact hk⟩ i 0 (by omega)
    obtain ⟨k3, hk3⟩ := R_l1 l b b0 b8 i (placesV (Sg.of (rd_T23 l (i : Int)))) (placesV_len _) _ ⟨k2, hk2⟩ (placesV (Sg.of (rd_T23 l (i : Int)))).length 0 (by omega)
    refine ⟨(198 + k3) + 1, ?_⟩
    unfold bellbuoyref37_Check.l0
    rw [if_pos (by omega), if_pos (by omega)]
    have hp : bellbuoyref37_Places.f (198 + k3) (rd_T23 l (i : Int)).f0 (rd_T23 l (i : Int)).f1 (rd_T23 l (i : Int)).f2 (rd_T23 l (i : Int)).f3 (rd_T23 l (i : Int)).f4 (rd_T23 l (i : Int)).f5 = some (placesV (Sg.of (rd_T23 l (i : Int)))) := liftP (s := Sg.of (rd_T23 l (i : Int))) k3
    rw [hp]
    simp only [Option.bind_some]
    have h3 := liftO (f := fun k => bellbuoyref37_Check.l1 k l b (i : Int) (placesV (Sg.of (rd_T23 l (i : Int)))) ((0 : Nat) : Int)) (fun k => (bellbuoyref37_Check.mono_l k).2.2.1 _ _ _ _ _) 198 k3 hk3
    rw [Nat.add_comm k3 198] at h3
    have h3 : bellbuoyref37_Check.l1 (198 + k3) l b (i : Int) (placesV (Sg.of (rd_T23 l (i : Int)))) 0 = some _ := h3
    rw [h3, drop_T23 hi]
    have ec : checkL b (rd_T23 l (i : Int) :: l.drop (i + 1)) i t = if badS (Sg.of (rd_T23 l (i : Int))) = true then ((i : Int), 10) else if (placesV (Sg.of (rd_T23 l (i : Int)))).any (fun x => decide (x ≥ 8 * b)) = true then ((i : Int), 1) else if (takeV t (Sg.of (rd_T23 l (i : Int)))).2 = true then checkL b (l.drop (i + 1)) (i + 1) (takeV t (Sg.of (rd_T23 l (i : Int)))).1 else ((i : Int), 13) := rfl
    rw [ec, taken_free ht]
    cases hb : badS (Sg.of (rd_T23 l (i : Int)))
    · have := placesV_good hb
      have g := good_ln hb
      rw [if_neg (by omega)]
      simp only [List.drop_zero, Bool.false_eq_true, if_false]
      congr 1
      split
      · rfl
      · cases (l.take i).any (fun y => rmeetV (Sg.of y) (Sg.of (rd_T23 l (i : Int)))) <;> rfl
    · rw [placesV_nil.2 hb]
      rfl
/-- The document's check is the program's. -/
theorem RCheck_eq (l : List S23) (b : Int) : ∃ k, bellbuoyref37_Check.f k l b = some (checkV l b) := by
  unfold checkV
  by_cases h64 : (l.length : Int) > 64
  · exact ⟨1, by unfold bellbuoyref37_Check.f; rw [if_pos h64, if_pos h64]⟩
  · by_cases hb : b < 0 ∨ b > 8
    · refine ⟨1, ?_⟩
      unfold bellbuoyref37_Check.f
      rw [if_neg h64, if_neg h64, if_pos hb]
      by_cases h0 : b < 0
      · rw [if_pos h0]
        rfl
      · rw [if_neg h0, decide_eq_true (by omega)]
        rfl
    · obtain ⟨k, hk⟩ := R_l0 l b (by omega) (by omega) (by omega) l.length 0 free64 (by omega) taken_nil
      refine ⟨k + 1, ?_⟩
      unfold bellbuoyref37_Check.f
      rw [if_neg h64, if_neg h64, if_neg hb, if_neg (by omega), decide_eq_false (by omega)]
      exact hk
theorem RCheck_walk (l : List S23) (A : Option Addr) (cp : Nat) (b : Int) (w : World) (hC : Kd.C k23 w A l.length l) (hcp : l.length ≤ cp) :
    Calls Try.prog 25 #[.slice A l.length cp, .int .i64 b] w fun e w' => e = .returned (.tuple #[.int .i64 (checkV l b).1, .int .i64 (checkV l b).2]) ∧ Below w.heap.size w w' := by
  obtain ⟨k, hk⟩ := RCheck_eq l b
  exact bellbuoyref37_Check.calls k A cp l b _ _ w hC hcp hk
end Go.Proofs.Ytepeihlhokpjjaa.P
