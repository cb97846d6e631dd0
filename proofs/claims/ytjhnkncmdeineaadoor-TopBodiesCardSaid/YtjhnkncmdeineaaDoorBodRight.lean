/- frame.Right by the program, of a frame that can be. Conditions: those that each lemma names. -/
import Derived.Test.YtjhnkncmdeineaaDoorBodFrame
namespace Go.Proofs.YtjhnkncmdeineaaDoor.P
open Go.RowKit Go.Proofs.YtjhnkncmdeineaaDoorW.PrintWords Go.Proofs.YtjhnkncmdeineaaDoorW.PrintLast Go.Proofs.YtjhnkncmdeineaaDoorW.PrintMore Go.Shelf
set_option linter.unusedVariables false
set_option linter.unusedSimpArgs false
theorem used_C {W : World} {g : Nat} {e : Bool} {n : Int} {r : Bool} {L : Int} {x : Nat → Int} (h : W.heap[g]? = some (.cells (frc e n r L x) 27 (0, 0))) (u m : Nat) (hm : u + m ≤ 8) (hz : ∀ j : Nat, u ≤ j → j < 8 → x j = 0) : (Kd.int .u8).C W (some ⟨g, 4 + u, none⟩) m (List.replicate m 0) :=
  C_blk h (4 + u) m _ (by simp) (by omega) (fun j y hj => by
    obtain ⟨hlt, rfl⟩ := List.getElem?_eq_some_iff.1 hj
    rw [List.length_replicate] at hlt
    rw [List.getElem_replicate, Nat.add_assoc, frc_get e n r L x (u + j) (by omega), hz (u + j) (by omega) (by omega)])
theorem no_byte (A : Option Addr) (cap m : Nat) (hm : m ≤ 8) (w : World) (hC : (Kd.int .u8).C w A m (List.replicate m 0)) :
    Calls Tryd.prog 15 #[.slice A m cap, .func (.func 16) #[] #[]] w fun e w' => e = .returned (.bool false) ∧ Below w.heap.size w w' := by
  have h := ContainsFunc_calls A cap (List.replicate m 0) (fun x hx => (List.mem_replicate.1 hx).2) (by simp; omega) w (by simpa using hC)
  rw [List.length_replicate] at h
  exact h
theorem idRight (e : Bool) (n : Int) (n0 : 0 ≤ n) (n1 : e = true → n < 536870912) (n2 : e = false → n < 2048) : ident_Right.f e n = some true := by
  unfold ident_Right.f
  cases e
  · rw [if_neg (by decide)]; congr 1; rw [beq_iff_eq]; have := n2 rfl; omega
  · rw [if_pos rfl]; congr 1; rw [beq_iff_eq]; have := n1 rfl; omega
set_option maxRecDepth 100000 in
set_option maxHeartbeats 4000000 in
theorem Right_calls (e : Bool) (n : Int) (r : Bool) (L : Int) (x : Nat → Int) (h : Good e n r L x) (w : World) :
    Calls Tryd.prog 7 #[.agg (frc e n r L x)] w fun e' w' => e' = .returned (.int .i64 0) ∧ Below w.heap.size w w' := by
  have hu24 := Tryd.underlying24
  have hu25 := Tryd.underlying25
  have hu27 := Tryd.underlying27
  have IR := Aside0.mk (fun w => ident_Right.calls e n true w (idRight e n h.n0 h.n1 h.n2))
  have HZ := Aside0.mk h.z
  have HL := Aside0.mk h.l0
  clear h
  have KF := Aside0.mk (blk_new w (.cells (frc e n r L x) 27))
  have B := Aside0.mk (below_alloc (Below.refl w.heap.size w) (.cells (frc e n r L x) 27))
  obtain ⟨c0, c1, c2, c3, c4, c5, c6, c7, c8, c9, c10, c11⟩ := cells12 KF.out
  have l1 : decide (L < 0) = false := decide_eq_false (by have := HL.out; omega)
  have l2 : decide (L > 8) = false := decide_eq_false (by have := HL.out; omega)
  have l3 : decide (8 < L) = false := decide_eq_false (by have := HL.out; omega)
  simp only [frc] at c0 c1 c2 c3 B ⊢
  clear c4 c5 c6 c7 c8 c9 c10 c11
  go_enter Tryd.func7, Tryd.ntmps7
  go_wp2_with fail
  (with_reducible refine (IR.out _).mono ?_)
  rintro e' W1 ⟨rfl, hb⟩
  have nK := Aside0.mk (blk_below KF.out hb)
  have nB := Aside0.mk (below_step B.out hb)
  clear hb KF B IR c0 c1 c2 c3
  obtain ⟨c0, c1, c2, c3, c4, c5, c6, c7, c8, c9, c10, c11⟩ := cells12 nK.out
  clear c4 c5 c6 c7 c8 c9 c10 c11
  by_cases hr : r = true
  · have NC := Aside0.mk (no_byte (some ⟨w.heap.size, 4, none⟩) 8 8 (by decide) W1 (used_C nK.out 0 8 (by decide) (fun j _ hj => HZ.out j hj (.inl hr))))
    go_wp2_with fail
    (with_reducible refine NC.out.mono ?_)
    rintro e' W2 ⟨rfl, hb⟩
    have mB := Aside0.mk (below_step nB.out hb)
    clear hb NC
    go_wp2
    go_ret
    exact ⟨rfl, mB.out⟩
  · have hr : r = false := Bool.eq_false_iff.2 hr
    obtain ⟨u, hu⟩ : ∃ u : Nat, L = (u : Int) := ⟨L.toNat, by have := HL.out; omega⟩
    subst hu
    have q0 : (0 : Int) ≤ (u : Int) := by omega
    have q1 : (u : Int) ≤ 8 := by have := HL.out; omega
    by_cases hu8 : u = 8
    · subst hu8
      have NC := Aside0.mk (no_byte (some ⟨w.heap.size, 4, none⟩) 0 0 (by decide) W1 (C_blk nK.out 4 0 [] rfl (by decide) (fun j y hj => by simp at hj)))
      go_wp2_with fail
      (with_reducible refine NC.out.mono ?_)
      rintro e' W2 ⟨rfl, hb⟩
      have mB := Aside0.mk (below_step nB.out hb)
      clear hb NC
      go_wp2
      go_ret
      exact ⟨rfl, mB.out⟩
    · have q2 : ¬ 8 = u := fun h => hu8 h.symm
      have NC := Aside0.mk (no_byte (some ⟨w.heap.size, 4 + u, none⟩) (8 - u) (8 - u) (by omega) W1 (used_C nK.out u (8 - u) (by omega) (fun j h1 h2 => HZ.out j h2 (.inr (by omega)))))
      clear hu8
      go_wp2_with fail
      (with_reducible refine NC.out.mono ?_)
      rintro e' W2 ⟨rfl, hb⟩
      have mB := Aside0.mk (below_step nB.out hb)
      clear hb NC
      go_wp2
      go_ret
      exact ⟨rfl, mB.out⟩
end Go.Proofs.YtjhnkncmdeineaaDoor.P
