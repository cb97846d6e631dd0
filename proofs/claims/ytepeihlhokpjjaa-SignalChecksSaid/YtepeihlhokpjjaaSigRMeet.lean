/- The document's shared bits. Conditions: those that each lemma names. -/
import Derived.Test.YtepeihlhokpjjaaSigRef
namespace Go.Proofs.Ytepeihlhokpjjaa.P
open Go.RowKit Go.Proofs.YtepeihlhokpjjaaW.PrintWords Go.Proofs.YtepeihlhokpjjaaW.PrintLast Go.Proofs.YtepeihlhokpjjaaW.PrintMore
set_option linter.unusedVariables false
set_option linter.unusedSimpArgs false
theorem liftO {α : Type} {f : Nat → Option α} (h : ∀ k, LeO (f k) (f (k + 1))) {r : α} : ∀ (e k : Nat), f k = some r → f (k + e) = some r
  | 0, k, hr => hr
  | e + 1, k, hr => h (k + e) r (liftO h e k hr)
theorem M_l1 (x y : List Int) (hy : y.length ≤ 64) (i : Nat) (hi : i < x.length) (r : Bool) (hr : ∃ k, bellbuoyref37_Meet.l0 k x y (wrap64 ((i : Int) + 1)) = some r) : ∀ (m j : Nat), j + m = y.length → ∃ k, bellbuoyref37_Meet.l1 k x y (i : Int) (j : Int) = some ((y.drop j).any (fun b => rd x (i : Int) == b) || r)
  | 0, j, hm => by
    obtain ⟨k, hk⟩ := hr
    refine ⟨k + 1, ?_⟩
    unfold bellbuoyref37_Meet.l1
    rw [if_neg (by omega), hk, List.drop_of_length_le (by omega)]
    rfl
  | m + 1, j, hm => by
    have hj : j < y.length := by omega
    obtain ⟨k, hk⟩ := M_l1 x y hy i hi r hr m (j + 1) (by omega)
    refine ⟨k + 1, ?_⟩
    unfold bellbuoyref37_Meet.l1
    rw [if_pos (by omega), if_pos (by omega), if_pos (by omega), if_pos (by omega), drop_rd hj, List.any_cons]
    by_cases e : rd x (i : Int) = rd y (j : Int)
    · rw [if_pos e]
      simp [e]
    · rw [if_neg e, show wrap64 ((j : Int) + 1) = ((j + 1 : Nat) : Int) by rw [wr_small _ (by omega) (by omega)]; rfl, hk]
      have : (rd x (i : Int) == rd y (j : Int)) = false := by simpa using e
      rw [this, Bool.false_or]
theorem M_l0 (x y : List Int) (hx : x.length ≤ 64) (hy : y.length ≤ 64) : ∀ (m i : Nat), i + m = x.length → ∃ k, bellbuoyref37_Meet.l0 k x y (i : Int) = some ((x.drop i).any (fun a => y.any (fun b => a == b)))
  | 0, i, hm => by
    refine ⟨1, ?_⟩
    unfold bellbuoyref37_Meet.l0
    rw [if_neg (by omega), List.drop_of_length_le (by omega)]
    rfl
  | m + 1, i, hm => by
    have hi : i < x.length := by omega
    obtain ⟨k, hk⟩ := M_l0 x y hx hy m (i + 1) (by omega)
    have e : wrap64 ((i : Int) + 1) = ((i + 1 : Nat) : Int) := by rw [wr_small _ (by omega) (by omega)]; rfl
    obtain ⟨k2, hk2⟩ := M_l1 x y hy i hi _ ⟨k, by rw [e]; exact hk⟩ y.length 0 (by omega)
    refine ⟨k2 + 1, ?_⟩
    unfold bellbuoyref37_Meet.l0
    rw [if_pos (by omega), show (0 : Int) = ((0 : Nat) : Int) from rfl, hk2, drop_rd hi, List.any_cons]
    rfl
/-- Whether two signals share a bit, by the document. -/
def rmeetV (a b : Sg) : Bool := (placesV a).any (fun x => (placesV b).any (fun y => x == y))
theorem RMeet_eq (a b : Sg) : ∃ k, bellbuoyref37_Meet.f k a.st a.ln a.big a.sgn a.sc a.off b.st b.ln b.big b.sgn b.sc b.off = some (rmeetV a b) := by
  obtain ⟨k, hk⟩ := M_l0 (placesV a) (placesV b) (placesV_len a) (placesV_len b) (placesV a).length 0 (by omega)
  refine ⟨198 + k, ?_⟩
  unfold bellbuoyref37_Meet.f
  rw [liftO (f := fun k => bellbuoyref37_Places.f k a.st a.ln a.big a.sgn a.sc a.off) (fun k => bellbuoyref37_Places.mono _ _ _ _ _ _ k) k 198 (RPlaces_eq a)]
  simp only [Option.bind_some]
  rw [liftO (f := fun k => bellbuoyref37_Places.f k b.st b.ln b.big b.sgn b.sc b.off) (fun k => bellbuoyref37_Places.mono _ _ _ _ _ _ k) k 198 (RPlaces_eq b)]
  simp only [Option.bind_some]
  rw [Nat.add_comm, liftO (f := fun k => bellbuoyref37_Meet.l0 k (placesV a) (placesV b) 0) (fun k => (bellbuoyref37_Meet.mono_l k).1 _ _ _) 198 k hk]
  rfl
theorem RMeet_walk (a b : Sg) (w : World) : Calls Try.prog 31 #[a.g, b.g] w fun e w' => e = .returned (.bool (rmeetV a b)) ∧ Below w.heap.size w w' := by
  obtain ⟨k, hk⟩ := RMeet_eq a b
  exact bellbuoyref37_Meet.calls k _ _ _ _ _ _ _ _ _ _ _ _ _ w hk
theorem rmeet_no {a b : Sg} (h : rmeetV a b = false) : ∀ x ∈ placesV b, x ∉ placesV a := by
  intro x hb ha
  unfold rmeetV at h
  rw [List.any_eq_false] at h
  have := h x ha
  rw [Bool.not_eq_true, List.any_eq_false] at this
  exact this x hb (by simp)
end Go.Proofs.Ytepeihlhokpjjaa.P
