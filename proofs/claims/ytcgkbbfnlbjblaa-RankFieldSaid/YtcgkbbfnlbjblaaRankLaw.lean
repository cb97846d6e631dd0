/- What the laws on a small field share: how it stands, and acts that can be read. Conditions: each lemma names them. -/
import Derived.Test.YtcgkbbfnlbjblaaRankDo
namespace Go.Proofs.Ytcgkbbfnlbjblaa.P
open Go.RowKit Go.Proofs.YtcgkbbfnlbjblaaW.PrintWords Go.Proofs.YtcgkbbfnlbjblaaW.PrintLast Go.Proofs.YtcgkbbfnlbjblaaW.PrintMore
set_option linter.unusedVariables false
set_option linter.unusedSimpArgs false
def Acts3 (w : World) (A : Option Addr) (len : Nat) : Prop := ∀ i, i < len → ∃ (ad : Addr) (z0 z1 z2 : Int), A = some ad ∧ w.cell? (ad.add (i * 3)) = some (.int .i64 z0) ∧ w.cell? ⟨(ad.add (i * 3)).block, (ad.add (i * 3)).off + 1, none⟩ = some (.int .i64 z1) ∧ w.cell? ⟨(ad.add (i * 3)).block, (ad.add (i * 3)).off + 2, none⟩ = some (.int .i64 z2)
theorem Acts3.below {w w1 : World} {A : Option Addr} {len : Nat} (h : Acts3 w A len) (hb : Below w.heap.size w w1) : Acts3 w1 A len := fun i hi => by
  obtain ⟨ad, z0, z1, z2, e, h0, h1, h2⟩ := h i hi
  exact ⟨ad, z0, z1, z2, e, pw_cell_below hb h0, pw_cell_below hb h1, pw_cell_below hb h2⟩
theorem Acts3.at_ {w w1 : World} {ad : Addr} {len : Nat} (h : Acts3 w (some ad) len) (hb : Below w.heap.size w w1) (i : Nat) (hi : i < len) : ∃ (z0 z1 z2 : Int), w1.cell? (ad.add (i * 3)) = some (.int .i64 z0) ∧ w1.cell? ⟨(ad.add (i * 3)).block, (ad.add (i * 3)).off + 1, none⟩ = some (.int .i64 z1) ∧ w1.cell? ⟨(ad.add (i * 3)).block, (ad.add (i * 3)).off + 2, none⟩ = some (.int .i64 z2) := by
  obtain ⟨ad', z0, z1, z2, e, h0, h1, h2⟩ := h.below hb i hi
  cases e
  exact ⟨z0, z1, z2, h0, h1, h2⟩
theorem add_off3 (a : Addr) (m j : Nat) : (⟨(a.add m).block, (a.add m).off + (j + 1), none⟩ : Addr) = a.add (m + (j + 1)) := by
  unfold Addr.add
  by_cases hm : m = 0 <;> simp [hm, Nat.add_assoc]
theorem acts3_row {w : World} {A : Option Addr} {len cap : Nat} (h : (A = none ∧ len = 0 ∧ cap = 0) ∨ ∃ x, A = some x ∧ len ≤ cap ∧ cap ≤ maxLen ∧ ∀ i, i < len → ∃ (z0 : Int) (z1 : Int) (z2 : Int), w.cell? (x.add (i * 3 + 0)) = some (.int .i64 z0) ∧ w.cell? (x.add (i * 3 + 1)) = some (.int .i64 z1) ∧ w.cell? (x.add (i * 3 + 2)) = some (.int .i64 z2) ∧ (Lit.int .i64 z0).wf = true ∧ (Lit.int .i64 z1).wf = true ∧ (Lit.int .i64 z2).wf = true) :
    Acts3 w A len ∧ len ≤ maxLen := by
  rcases h with ⟨_, rfl, _⟩ | ⟨x, rfl, hl, hm, hi⟩
  · exact ⟨fun i hi => absurd hi (Nat.not_lt_zero _), Nat.zero_le _⟩
  · refine ⟨fun i hlt => ?_, Nat.le_trans hl hm⟩
    obtain ⟨z0, z1, z2, h0, h1, h2, _⟩ := hi i hlt
    refine ⟨x, z0, z1, z2, rfl, h0, ?_, ?_⟩
    · rw [add_off3 x (i * 3) 0]; exact h1
    · rw [add_off3 x (i * 3) 1]; exact h2
structure DS (w W : World) (base f g : Nat) (b s p : Int) (H : Nat → Option Nat) (L : Nat → Option Nd) (T : List Int) : Prop where
  fld : Fld W base f g b s p 5 H L T
  ok : FOk (WJ b s p) p 5 L
  bx : W.heap[w.heap.size]? = some (.cells #[.int .i64 b, .int .i64 s, .int .i64 p] 23 (0, 0))
  B : Below w.heap.size w W
  hw : w.heap.size < base
  hb : base ≤ W.heap.size
section
variable {w W W' : World} {base f g : Nat} {b s p : Int} {H H' : Nat → Option Nat} {L L' : Nat → Option Nd} {T T' : List Int}
theorem DS.fx (h : DS w W base f g b s p H L T) : Fx W W base f g b s p H L T := ⟨h.fld, h.ok, Below.refl _ _, h.hb⟩
theorem DS.go (h : DS w W base f g b s p H L T) (g2 : Fx W W' base f g b s p H' L' T') : DS w W' base f g b s p H' L' T' :=
  ⟨g2.fld, g2.ok, (g2.B.block _ h.hw).trans h.bx, h.B.trans (g2.B.mono (Nat.le_of_lt h.hw)), h.hw, Nat.le_trans h.hb g2.B.size⟩
theorem DS.below (h : DS w W base f g b s p H L T) (hb : Below W.heap.size W W') : DS w W' base f g b s p H L T := ⟨h.fld.below hb, h.ok, blk_below h.bx hb, below_step h.B hb, h.hw, Nat.le_trans h.hb hb.size⟩
theorem DS.cells (h : DS w W base f g b s p H L T) : W.cell? ⟨w.heap.size, 0, none⟩ = some (.int .i64 b) ∧ W.cell? ⟨w.heap.size, 1, none⟩ = some (.int .i64 s) ∧ W.cell? ⟨w.heap.size, 2, none⟩ = some (.int .i64 p) := ⟨(blk_cell h.bx 0).trans rfl, (blk_cell h.bx 1).trans rfl, (blk_cell h.bx 2).trans rfl⟩
theorem DS.tick (h : DS w W base f g b s p H L T) (hr : rightB b s p = true) (lost : Bool) (hf : Fld W' base f g b s p 5 H (tickL (WJ b s p) p L T lost) (tickT (WJ b s p) p 5 L T lost)) (hc : Ch (FldS f g H 5) W W') :
    DS w W' base f g b s p H (tickL (WJ b s p) p L T lost) (tickT (WJ b s p) p 5 L T lost) :=
  h.go (h.fx.go hf (h.ok.tick (fun j _ => WJ_nn b s p j) (right_of hr).1 T lost) hc)
theorem Fld.not3 (h : Fld W base f g b s p 5 H L T) : ∀ k cs, FldS f g H 5 k → W.heap[k]? = some (.cells cs 3 (0, 0)) → False := fun k cs q hk => by
  obtain ⟨v4, i1, _⟩ := h.fv
  obtain ⟨gc, i2, _⟩ := h.gv
  rcases q with rfl | rfl | q
  · exact absurd (blk_type hk i1) (by decide)
  · exact absurd (blk_type hk i2) (by decide)
  · exact not_FS h.nd hk (by decide) q
theorem R_slice' {b0 : Nat} {ok : Nat → Prop} {v : Value} {xs : List Int} (h : Kd.R (Kd.int .i64) 3 W b0 ok v xs) : ∃ A c, v = .slice A xs.length c := by
  obtain ⟨A, c, e, _⟩ := Kd.R_reads h
  exact ⟨A, c, e⟩
theorem R_at {b0 : Nat} {ok : Nat → Prop} {A : Option Addr} {n c : Nat} {xs : List Int} (h : Kd.R (Kd.int .i64) 3 W b0 ok (.slice A n c) xs) (i : Int) (i0 : 0 ≤ i) (i1 : i < xs.length) : ∃ ad, A = some ad ∧ W.cell? (ad.add i.toNat) = some (.int .i64 (rd xs i)) := by
  obtain ⟨A', c', e, hl, hC⟩ := Kd.R_reads h
  cases e
  exact Kd.at_int hC i i0 i1
end
def smB (b : Int) (k : Int) : Int := partV b 10 + (k + 2) * 6
def smS (s : Int) : Int := partV s 6 + 1
def smP (p : Int) : Int := partV p 5 + 1
theorem sm_range (b s p k : Int) (k0 : 0 ≤ k) : (k + 2) * 6 ≤ smB b k ∧ smB b k ≤ (k + 2) * 6 + 9 ∧ 1 ≤ smS s ∧ smS s ≤ 6 ∧ 1 ≤ smP p ∧ smP p ≤ 5 := by
  have h1 := part_range b 10 (by decide)
  have h2 := part_range s 6 (by decide)
  have h3 := part_range p 5 (by decide)
  unfold smB smS smP
  omega
theorem sm_right (b s p k : Int) (k0 : 0 ≤ k) (k1 : k ≤ 4) : rightB (smB b k) (smS s) (smP p) = true := by
  have := sm_range b s p k k0
  unfold rightB
  rw [decide_eq_true_eq]
  omega
theorem WJ_eq {b s p : Int} (hr : rightB b s p = true) (j : Nat) (hj : j < 5) : WJ b s p j = b + (j : Int) * s := by
  have e : rankB (j : Int) = true := decide_eq_true (by omega)
  exact if_pos ⟨hr, e⟩
theorem WJ_ge {b s p : Int} (hr : rightB b s p = true) (j : Nat) (hj : j < 5) : b ≤ WJ b s p j ∧ WJ b s p j ≤ b + 4 * s := by
  have a := right_of hr
  rw [WJ_eq hr j hj]
  have h1 : 0 ≤ (j : Int) * s := Int.mul_nonneg (by omega) (by omega)
  have h2 : (j : Int) * s ≤ 4 * s := Int.mul_le_mul_of_nonneg_right (by omega) (by omega)
  omega
theorem box_put {w W : World} {a b c : Value} {t : TypeId} (h : W.heap[w.heap.size]? = some (.cells #[a, b, c] t (0, 0))) (x y z : Value) (hB : Below w.heap.size w W) :
    (((W.setCell ⟨w.heap.size, 0, none⟩ x).setCell ⟨w.heap.size, 1, none⟩ y).setCell ⟨w.heap.size, 2, none⟩ z).heap[w.heap.size]? = some (.cells #[x, y, z] t (0, 0)) ∧ Below w.heap.size w (((W.setCell ⟨w.heap.size, 0, none⟩ x).setCell ⟨w.heap.size, 1, none⟩ y).setCell ⟨w.heap.size, 2, none⟩ z) := by
  have := blk_set (blk_set (blk_set h 0 x) 1 y) 2 z
  exact ⟨by simpa using this, ((hB.setCell (p := ⟨w.heap.size, 0, none⟩) (Nat.le_refl _) _).setCell (p := ⟨w.heap.size, 1, none⟩) (Nat.le_refl _) _).setCell (p := ⟨w.heap.size, 2, none⟩) (Nat.le_refl _) _⟩
end Go.Proofs.Ytcgkbbfnlbjblaa.P
