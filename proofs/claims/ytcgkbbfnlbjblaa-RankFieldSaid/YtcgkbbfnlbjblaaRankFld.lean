/- A field of nodes by the program: its acts. Conditions: the ranges that each lemma names. -/
import Derived.Test.YtcgkbbfnlbjblaaRankNew
namespace Go.Proofs.Ytcgkbbfnlbjblaa.P
open Go.RowKit Go.Proofs.YtcgkbbfnlbjblaaW.PrintWords Go.Proofs.YtcgkbbfnlbjblaaW.PrintLast Go.Proofs.YtcgkbbfnlbjblaaW.PrintMore
set_option linter.unusedVariables false
set_option linter.unusedSimpArgs false
structure Fld (w : World) (base f g : Nat) (b s p : Int) (n : Nat) (H : Nat → Option Nat) (L : Nat → Option Nd) (told : List Int) : Prop where
  fv : ∃ v4, w.heap[f]? = some (.cells #[.int .i64 b, .int .i64 s, .int .i64 p, .slice (some ⟨g, 0, none⟩) n n, v4] 81 (0, 0)) ∧ Kd.R (Kd.int .i64) 3 w base (fun _ => True) v4 told
  gv : ∃ gc, w.heap[g]? = some (.cells gc 36 (0, 0)) ∧ ∀ j, j < n → gc[j]? = some (ptr (H j))
  nd : Nds w b s p n H L
  bf : base ≤ f
  bg : base ≤ g
  bh : ∀ j k, j < n → H j = some k → base ≤ k
def FldS (f g : Nat) (H : Nat → Option Nat) (n k : Nat) : Prop := k = f ∨ k = g ∨ FS H n k
theorem Nds.keep {w w' : World} {S : Nat → Prop} {b s p : Int} {n : Nat} {H : Nat → Option Nat} {L : Nat → Option Nd} (h : Nds w b s p n H L) (hc : Ch S w w') (hS : ∀ k, FS H n k → ¬ S k) : Nds w' b s p n H L :=
  ⟨fun j hj => (h.at_ j hj).keep fun k e => hc.keep k ((h.at_ j hj).lt e) (hS k ⟨j, hj, e⟩), h.inj⟩
theorem Fld.keep {w w' : World} {S : Nat → Prop} {base f g : Nat} {b s p : Int} {n : Nat} {H : Nat → Option Nat} {L : Nat → Option Nd} {told : List Int} (h : Fld w base f g b s p n H L told) (hc : Ch S w w') (hS : ∀ k cs t, S k → w.heap[k]? = some (.cells cs t (0, 0)) → t ≠ 81 ∧ t ≠ 36 ∧ t ≠ 77 ∧ t ≠ 3) :
    Fld w' base f g b s p n H L told := by
  obtain ⟨v4, h1, h2⟩ := h.fv
  obtain ⟨gc, h3, h4⟩ := h.gv
  exact ⟨⟨v4, hc.blk h1 (fun q => (hS _ _ _ q h1).1 rfl), R_ch h2 hc (fun k cs q hh => (hS k cs 3 q hh).2.2.2 rfl)⟩, ⟨gc, hc.blk h3 (fun q => (hS _ _ _ q h3).2.1 rfl), h4⟩,
    h.nd.keep hc (fun k q hs => by obtain ⟨cs, hh⟩ := FS.typed h.nd q; exact (hS k cs 77 hs hh).2.2.1 rfl), h.bf, h.bg, h.bh⟩
theorem Fld.below {w w' : World} {base f g : Nat} {b s p : Int} {n : Nat} {H : Nat → Option Nat} {L : Nat → Option Nd} {told : List Int} (h : Fld w base f g b s p n H L told) (hb : Below w.heap.size w w') : Fld w' base f g b s p n H L told :=
  h.keep (Ch.of hb (fun _ => False)) (fun _ _ _ q => q.elim)
theorem Fld.base_le {w : World} {base f g : Nat} {b s p : Int} {n : Nat} {H : Nat → Option Nat} {L : Nat → Option Nd} {told : List Int} (h : Fld w base f g b s p n H L told) : ∀ k, FldS f g H n k → base ≤ k := by
  rintro k (rfl | rfl | ⟨j, hj, e⟩)
  · exact h.bf
  · exact h.bg
  · exact h.bh j k hj e
set_option maxHeartbeats 1000000 in
theorem Masters_calls (base f g n : Nat) (b s p : Int) (H : Nat → Option Nat) (L : Nat → Option Nd) (told : List Int) (w : World) (h : Fld w base f g b s p n H L told) (n1 : n ≤ 32) :
    Calls Try.prog 33 #[.pointer (some ⟨f, 0, none⟩)] w fun e w' => ∃ v, e = .returned v ∧ Kd.R (Kd.int .i64) 3 w' w.heap.size (fun _ => True) v (toldL (fun j => mO (L j)) n) ∧ Below w.heap.size w w' := by
  obtain ⟨v4, h1, h2⟩ := h.fv
  obtain ⟨gc, h3, h4⟩ := h.gv
  have H1 := Aside0.mk h1
  have H3 := Aside0.mk h3
  have H4 := Aside0.mk h4
  have HN := Aside0.mk h.nd
  have N1 := Aside0.mk n1
  clear h1 h2 h3 h4 h n1
  go_enter Try.func33, Try.ntmps33
  go_wp2_with fail
  (with_reducible refine (ThoseMaster_calls f g n b s p #[] gc H L v4 _ H1.out H3.out H4.out HN.out N1.out).mono ?_); rintro e w1 ⟨v, rfl, hr, hb⟩
  obtain ⟨A, c, rfl⟩ := Kd.R_slice hr
  have HR := Aside0.mk hr
  have HB := Aside0.mk hb
  clear hr hb
  go_wp2_with fail
  go_ret
  exact ⟨_, rfl, HR.out, HB.out⟩
def aliveB (n : Nat) (H : Nat → Option Nat) (k : Int) : Bool := decide (0 ≤ k ∧ k < n) && (H k.toNat).isSome
theorem Alive_calls (base f g n : Nat) (b s p k : Int) (H : Nat → Option Nat) (L : Nat → Option Nd) (told : List Int) (w : World) (h : Fld w base f g b s p n H L told) (n1 : n ≤ 32) :
    Calls Try.prog 35 #[.pointer (some ⟨f, 0, none⟩), .int .i64 k] w fun e w' => e = .returned (.bool (aliveB n H k)) ∧ Drawn0 w w' := by
  obtain ⟨v4, h1, h2⟩ := h.fv
  obtain ⟨gc, h3, h4⟩ := h.gv
  have c3 : w.cell? ⟨f, 3, none⟩ = some (.slice (some ⟨g, 0, none⟩) n n) := (blk_cell h1 3).trans rfl
  by_cases k0 : 0 ≤ k
  · have u1 : decide (0 ≤ k) = true := decide_eq_true k0
    have u2 : decide (k ≥ 0) = true := decide_eq_true k0
    by_cases k1 : k < n
    · have u3 : decide (k < n) = true := decide_eq_true k1
      have u4 : (0 ≤ k) = True := eq_true k0
      have u5 : (k < (n : Int)) = True := eq_true k1
      have c5 : w.cell? ⟨g, k.toNat, none⟩ = some (ptr (H k.toNat)) := (blk_cell h3 k.toNat).trans (h4 _ (by omega))
      have e : aliveB n H k = (H k.toNat).isSome := by rw [aliveB, decide_eq_true ⟨k0, k1⟩, Bool.true_and]
      rw [e]
      clear h1 h2 h3 h4 h n1 k0 k1 e
      cases hh : H k.toNat with
      | none =>
        rw [hh] at c5
        have c6 : w.cell? ⟨g, k.toNat, none⟩ = some (.pointer none) := c5
        clear c5 hh
        go_enter Try.func35, Try.ntmps35
        go_wp2_with fail
        repeat (go_quiet (fail); try go_wp2)
        go_ret
        exact ⟨rfl, by repeat (first | exact Drawn0.refl _ | apply Drawn0.step)⟩
      | some q =>
        rw [hh] at c5
        have c6 : w.cell? ⟨g, k.toNat, none⟩ = some (.pointer (some ⟨q, 0, none⟩)) := c5
        clear c5 hh
        go_enter Try.func35, Try.ntmps35
        go_wp2_with fail
        repeat (go_quiet (fail); try go_wp2)
        go_ret
        exact ⟨rfl, by repeat (first | exact Drawn0.refl _ | apply Drawn0.step)⟩
    · have u3 : decide (k < n) = false := decide_eq_false k1
      have e : aliveB n H k = false := by rw [aliveB, decide_eq_false (by omega), Bool.false_and]
      rw [e]
      clear h1 h2 h3 h4 h n1 k0 k1 e
      go_enter Try.func35, Try.ntmps35
      go_wp2_with fail
      repeat (go_quiet (fail); try go_wp2)
      go_ret
      exact ⟨rfl, by repeat (first | exact Drawn0.refl _ | apply Drawn0.step)⟩
  · have u1 : decide (0 ≤ k) = false := decide_eq_false k0
    have u2 : decide (k ≥ 0) = false := decide_eq_false k0
    have e : aliveB n H k = false := by rw [aliveB, decide_eq_false (by omega), Bool.false_and]
    rw [e]
    clear h1 h2 h3 h4 h n1 k0 e
    go_enter Try.func35, Try.ntmps35
    go_wp2_with fail
    repeat (go_quiet (fail); try go_wp2)
    go_ret
    exact ⟨rfl, by repeat (first | exact Drawn0.refl _ | apply Drawn0.step)⟩
end Go.Proofs.Ytcgkbbfnlbjblaa.P
