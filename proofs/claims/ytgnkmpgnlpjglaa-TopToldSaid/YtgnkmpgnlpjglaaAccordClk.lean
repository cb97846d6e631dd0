/- The clocks of both sides: new ones, and what their numbers are within. Conditions: each lemma names them. -/
import Derived.Test.YtgnkmpgnlpjglaaClockLib3
namespace Go.Proofs.Ytgnkmpgnlpjglaa.P
open Go.RowKit Go.Proofs.YtgnkmpgnlpjglaaW.PrintWords Go.Proofs.YtgnkmpgnlpjglaaW.PrintLast Go.Proofs.YtgnkmpgnlpjglaaW.PrintMore
set_option linter.unusedVariables false
set_option linter.unusedSimpArgs false
theorem ClkNew_calls (w : World) : Calls Try.prog 16 #[] w fun e w' => ∃ g, w.heap.size ≤ g ∧ e = .returned (.pointer (some ⟨g, 0, none⟩)) ∧ At4 98 w' g 0 0 1048576 0 ∧ Below w.heap.size w w' := by
  refine (clock_New.calls 0 0 1048576 0 w w (Below.refl _ _) rfl).mono ?_
  rintro e w1 ⟨g, rfl, hs, hb, _⟩
  exact ⟨g, hs.2, rfl, hs.1, hb⟩
theorem Read_to (g : Nat) (r b k l c t l' : Int) (ok : Bool) (w : World) (h : At4 98 w g r b k l) (hr : In64 r) (hb : In64 b) (hk : In64 k) (hc : In64 c) (hl : lookV r b k c = (t, ok)) (hl' : readV l t ok = l') :
    Calls Try.prog 18 #[.pointer (some ⟨g, 0, none⟩), .int .i64 c] w (P4 98 g r b k l' (.tuple #[.int .i64 l', .bool ok]) w) := by
  subst hl'
  exact Read_calls g r b k l c t ok w h hr hb hk hc hl
theorem wf64 {n : Int} (h : (Lit.int .i64 n).wf = true) : In64 n := by
  simp only [Lit.wf, Bool.and_eq_true, decide_eq_true_eq] at h
  exact h
theorem on_64 {r b k c y k' e r1 b1 k1 : Int} (h : onV r b k c y k' = (e, r1, b1, k1)) (hr : In64 r) (hb : In64 b) (hk : In64 k) (hc : In64 c) (hk' : In64 k') : In64 r1 ∧ In64 b1 ∧ In64 k1 := by
  unfold onV at h
  split at h
  · next x =>
    simp only [Prod.mk.injEq] at h
    obtain ⟨_, rfl, rfl, rfl⟩ := h
    have := wi_bounds x.2
    exact ⟨hc, by unfold In64; omega, hk'⟩
  · simp only [Prod.mk.injEq] at h
    obtain ⟨_, rfl, rfl, rfl⟩ := h
    exact ⟨hr, hb, hk⟩
theorem tune_64 {r b k c k' e r1 b1 k1 : Int} (h : tuneV r b k c k' = (e, r1, b1, k1)) (hr : In64 r) (hb : In64 b) (hk : In64 k) (hc : In64 c) : In64 r1 ∧ In64 b1 ∧ In64 k1 := by
  unfold tuneV at h
  split at h
  · next x => exact on_64 h hr hb hk hc (by unfold In64; omega)
  · simp only [Prod.mk.injEq] at h
    obtain ⟨_, rfl, rfl, rfl⟩ := h
    exact ⟨hr, hb, hk⟩
theorem read_64 {r b k c t l : Int} {ok : Bool} (h : lookV r b k c = (t, ok)) (hl : In64 l) : In64 (readV l t ok) := by
  unfold readV
  cases ok with
  | false => exact hl
  | true =>
    have := wi_bounds (look_ok h)
    split
    · unfold In64; omega
    · exact hl
theorem read_le (l t : Int) (ok : Bool) : l ≤ readV l t ok := by
  unfold readV
  split
  · next x => rw [Bool.and_eq_true, decide_eq_true_eq] at x; omega
  · exact Int.le_refl l
/-- A clock whose numbers are within 64 bits, and all that is elder as it was. -/
structure C1 (t : TypeId) (w W : World) (g : Nat) (r b k l : Int) : Prop where
  c : At4 t W g r b k l
  r : In64 r
  b : In64 b
  k : In64 k
  l : In64 l
  B : Below w.heap.size w W
  G : w.heap.size ≤ g
theorem C1.below {t : TypeId} {w W W' : World} {g : Nat} {r b k l : Int} (h : C1 t w W g r b k l) (hb : Below W.heap.size W W') : C1 t w W' g r b k l := ⟨h.c.below hb, h.r, h.b, h.k, h.l, below_step h.B hb, h.G⟩
theorem C1.alloc {t : TypeId} {w W : World} {g : Nat} {r b k l : Int} (h : C1 t w W g r b k l) (o : Obj) : C1 t w (W.alloc o) g r b k l := h.below (below_alloc (Below.refl _ _) _)
theorem C1.drew {t : TypeId} {w W : World} {g : Nat} {r b k l : Int} (h : C1 t w W g r b k l) : C1 t w W.drew g r b k l := h.below (below_drew1 (Below.refl _ _))
theorem C1.step {t : TypeId} {w W W' : World} {g : Nat} {r b k l r' b' k' l' : Int} {v : Value} {e : Ending} (h : C1 t w W g r b k l) (hp : P4 t g r' b' k' l' v W e W') (hr : In64 r') (hb : In64 b') (hk : In64 k') (hl : In64 l') : C1 t w W' g r' b' k' l' :=
  ⟨hp.2.1, hr, hb, hk, hl, h.B.trans (hp.2.2.2 _ h.G h.B.size), h.G⟩
theorem P4.box {t : TypeId} {g q : Nat} {r b k l : Int} {v : Value} {w w' : World} {e : Ending} {o : Obj} (hp : P4 t g r b k l v w e w') (hq : w.heap[q]? = some o) (hne : q ≠ g) : w'.heap[q]? = some o := by
  have hlt : q < w.heap.size := (Array.getElem?_eq_some_iff.1 hq).1
  rw [hp.2.2.1.2 q hlt hne (by simp)]
  exact hq
end Go.Proofs.Ytgnkmpgnlpjglaa.P
