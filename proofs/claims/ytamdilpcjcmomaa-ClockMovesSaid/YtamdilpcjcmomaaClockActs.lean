/- What the laws on acts of a clock share: a slice of acts that can be read, and a clock whose numbers are within 64 bits. Conditions: each lemma names them. -/
import Derived.Test.YtamdilpcjcmomaaClockLive
namespace Go.Proofs.Ytamdilpcjcmomaa.P
open Go.RowKit Go.Proofs.YtamdilpcjcmomaaW.PrintWords Go.Proofs.YtamdilpcjcmomaaW.PrintLast Go.Proofs.YtamdilpcjcmomaaW.PrintMore
set_option linter.unusedVariables false
set_option linter.unusedSimpArgs false
/-- A slice of acts whose cells can be read. -/
def Acts (w : World) (A : Option Addr) (len : Nat) : Prop := ∀ i, i < len → ∃ (ad : Addr) (z0 z1 z2 : Int), A = some ad ∧ w.cell? (ad.add (i * 3)) = some (.int .i64 z0) ∧ w.cell? (ad.add (i * 3 + 1)) = some (.int .i64 z1) ∧ w.cell? (ad.add (i * 3 + 2)) = some (.int .i64 z2) ∧ In64 z0 ∧ In64 z1 ∧ In64 z2
theorem Acts.below {w w1 : World} {A : Option Addr} {len : Nat} (h : Acts w A len) (hb : Below w.heap.size w w1) : Acts w1 A len := fun i hi => by
  obtain ⟨ad, z0, z1, z2, e, h0, h1, h2, hw⟩ := h i hi
  exact ⟨ad, z0, z1, z2, e, pw_cell_below hb h0, pw_cell_below hb h1, pw_cell_below hb h2, hw⟩
theorem add_off (a : Addr) (m j : Nat) : (⟨(a.add m).block, (a.add m).off + (j + 1), none⟩ : Addr) = a.add (m + (j + 1)) := by
  unfold Addr.add
  by_cases hm : m = 0 <;> simp [hm, Nat.add_assoc]
theorem act_cells {w : World} {ad : Addr} {m : Nat} {u v : Value} (h1 : w.cell? (ad.add (m + 1)) = some u) (h2 : w.cell? (ad.add (m + 2)) = some v) : w.cell? ⟨(ad.add m).block, (ad.add m).off + 1, none⟩ = some u ∧ w.cell? ⟨(ad.add m).block, (ad.add m).off + 2, none⟩ = some v := by
  rw [add_off ad m 0, add_off ad m 1]
  exact ⟨h1, h2⟩
theorem wf64 {n : Int} (h : (Lit.int .i64 n).wf = true) : In64 n := by
  simp only [Lit.wf, Bool.and_eq_true, decide_eq_true_eq] at h
  exact h
theorem acts_row {w : World} {A : Option Addr} {len cap : Nat} (h : (A = none ∧ len = 0 ∧ cap = 0) ∨ ∃ x, A = some x ∧ len ≤ cap ∧ cap ≤ maxLen ∧ ∀ i, i < len → ∃ (z0 : Int) (z1 : Int) (z2 : Int), w.cell? (x.add (i * 3 + 0)) = some (.int .i64 z0) ∧ w.cell? (x.add (i * 3 + 1)) = some (.int .i64 z1) ∧ w.cell? (x.add (i * 3 + 2)) = some (.int .i64 z2) ∧ (Lit.int .i64 z0).wf = true ∧ (Lit.int .i64 z1).wf = true ∧ (Lit.int .i64 z2).wf = true) :
    Acts w A len := by
  rcases h with ⟨_, rfl, _⟩ | ⟨x, rfl, _, _, hi⟩
  · exact fun i hi => absurd hi (Nat.not_lt_zero _)
  · intro i hlt
    obtain ⟨z0, z1, z2, h0, h1, h2, w0, w1, w2⟩ := hi i hlt
    exact ⟨x, z0, z1, z2, rfl, h0, h1, h2, wf64 w0, wf64 w1, wf64 w2⟩
theorem on_64 {r b k c y k' e r1 b1 k1 : Int} (h : onV r b k c y k' = (e, r1, b1, k1)) (hr : In64 r) (hb : In64 b) (hk : In64 k) (hc : In64 c) (hk' : In64 k') : In64 r1 ∧ In64 b1 ∧ In64 k1 := by
  unfold onV at h
  split at h
  · next x =>
    simp only [Prod.mk.injEq] at h
    obtain ⟨_, rfl, rfl, rfl⟩ := h
    have := wi_bounds x.2
    exact ⟨hc, by unfold In64; omega, hk'⟩
  · simp only [Prod.mk.injEq] at h
    obtain ⟨_, rfl, rfl, rfl⟩ := h
    exact ⟨hr, hb, hk⟩
theorem tune_64 {r b k c k' e r1 b1 k1 : Int} (h : tuneV r b k c k' = (e, r1, b1, k1)) (hr : In64 r) (hb : In64 b) (hk : In64 k) (hc : In64 c) : In64 r1 ∧ In64 b1 ∧ In64 k1 := by
  unfold tuneV at h
  split at h
  · next x => exact on_64 h hr hb hk hc (by unfold In64; omega)
  · simp only [Prod.mk.injEq] at h
    obtain ⟨_, rfl, rfl, rfl⟩ := h
    exact ⟨hr, hb, hk⟩
theorem read_64 {r b k c t l : Int} {ok : Bool} (h : lookV r b k c = (t, ok)) (hl : In64 l) : In64 (readV l t ok) := by
  unfold readV
  cases ok with
  | false => exact hl
  | true =>
    have := wi_bounds (look_ok h)
    split
    · unfold In64; omega
    · exact hl
theorem read_le (l t : Int) (ok : Bool) : l ≤ readV l t ok := by
  unfold readV
  split
  · next x => rw [Bool.and_eq_true, decide_eq_true_eq] at x; omega
  · exact Int.le_refl l
/-- A clock whose numbers are within 64 bits, and all that is elder as it was. -/
structure C1 (t : TypeId) (w W : World) (g : Nat) (r b k l : Int) : Prop where
  c : At4 t W g r b k l
  r : In64 r
  b : In64 b
  k : In64 k
  l : In64 l
  B : Below w.heap.size w W
  G : w.heap.size ≤ g
theorem C1.below {t : TypeId} {w W W' : World} {g : Nat} {r b k l : Int} (h : C1 t w W g r b k l) (hb : Below W.heap.size W W') : C1 t w W' g r b k l := ⟨h.c.below hb, h.r, h.b, h.k, h.l, below_step h.B hb, h.G⟩
theorem C1.alloc {t : TypeId} {w W : World} {g : Nat} {r b k l : Int} (h : C1 t w W g r b k l) (o : Obj) : C1 t w (W.alloc o) g r b k l := h.below (below_alloc (Below.refl _ _) _)
theorem C1.drew {t : TypeId} {w W : World} {g : Nat} {r b k l : Int} (h : C1 t w W g r b k l) : C1 t w W.drew g r b k l := h.below (below_drew1 (Below.refl _ _))
theorem C1.step {t : TypeId} {w W W' : World} {g : Nat} {r b k l r' b' k' l' : Int} {v : Value} {e : Ending} (h : C1 t w W g r b k l) (hp : P4 t g r' b' k' l' v W e W') (hr : In64 r') (hb : In64 b') (hk : In64 k') (hl : In64 l') : C1 t w W' g r' b' k' l' :=
  ⟨hp.2.1, hr, hb, hk, hl, h.B.trans (hp.2.2.2 _ h.G h.B.size), h.G⟩
theorem P4.box {t : TypeId} {g q : Nat} {r b k l : Int} {v : Value} {w w' : World} {e : Ending} {o : Obj} (hp : P4 t g r b k l v w e w') (hq : w.heap[q]? = some o) (hne : q ≠ g) : w'.heap[q]? = some o := by
  have hlt : q < w.heap.size := (Array.getElem?_eq_some_iff.1 hq).1
  rw [hp.2.2.1.2 q hlt hne (by simp)]
  exact hq
end Go.Proofs.Ytamdilpcjcmomaa.P
