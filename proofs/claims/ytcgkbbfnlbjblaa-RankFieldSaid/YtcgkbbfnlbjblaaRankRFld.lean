/- The document's field of nodes: what it is, in memory. Conditions: each lemma names them. -/
import Derived.Test.YtcgkbbfnlbjblaaRankNodes
import Derived.Test.YtcgkbbfnlbjblaaRankLive2
namespace Go.Proofs.Ytcgkbbfnlbjblaa.P
open Go.RowKit Go.Proofs.YtcgkbbfnlbjblaaW.PrintWords Go.Proofs.YtcgkbbfnlbjblaaW.PrintLast Go.Proofs.YtcgkbbfnlbjblaaW.PrintMore
set_option linter.unusedVariables false
set_option linter.unusedSimpArgs false
def RNO (w : World) (b s p : Int) (j : Nat) : Option Nat → Option Nd → Prop
  | none, none => True
  | some h, some x => RAt w h b s p (j : Int) x
  | _, _ => False
structure RNds (w : World) (b s p : Int) (n : Nat) (H : Nat → Option Nat) (L : Nat → Option Nd) : Prop where
  at_ : ∀ j, j < n → RNO w b s p j (H j) (L j)
  inj : ∀ i j k, i < n → j < n → H i = some k → H j = some k → i = j
theorem RNO.typed {w : World} {b s p : Int} {j k : Nat} {h : Option Nat} {x : Option Nd} (hn : RNO w b s p j h x) (e : h = some k) : ∃ cs, w.heap[k]? = some (.cells cs 47 (0, 0)) := by
  subst e
  cases x with
  | none => exact hn.elim
  | some x => exact ⟨_, hn⟩
theorem RNO.keep {w w' : World} {b s p : Int} {j : Nat} {h : Option Nat} {x : Option Nd} (hn : RNO w b s p j h x) (hk : ∀ k, h = some k → w'.heap[k]? = w.heap[k]?) : RNO w' b s p j h x := by
  cases h with
  | none => cases x with
    | none => trivial
    | some x => exact hn.elim
  | some g => cases x with
    | none => exact hn.elim
    | some x => exact (hk g rfl).trans hn
theorem RNO.lt {w : World} {b s p : Int} {j k : Nat} {h : Option Nat} {x : Option Nd} (hn : RNO w b s p j h x) (e : h = some k) : k < w.heap.size := by
  obtain ⟨cs, hc⟩ := hn.typed e
  exact blk_lt hc
theorem FS.rtyped {w : World} {b s p : Int} {n k : Nat} {H : Nat → Option Nat} {L : Nat → Option Nd} (h : RNds w b s p n H L) (hk : FS H n k) : ∃ cs, w.heap[k]? = some (.cells cs 47 (0, 0)) := by
  obtain ⟨j, hj, e⟩ := hk
  exact (h.at_ j hj).typed e
theorem not_RFS {w : World} {b s p : Int} {n k t : Nat} {cs : Array Value} {H : Nat → Option Nat} {L : Nat → Option Nd} (h : RNds w b s p n H L) (hk : w.heap[k]? = some (.cells cs t (0, 0))) (ht : t ≠ 47) : ¬ FS H n k := fun hf => by
  obtain ⟨cs', hc⟩ := FS.rtyped h hf
  exact ht (blk_type hk hc)
structure RFld (w : World) (base f g : Nat) (b s p : Int) (n : Nat) (H : Nat → Option Nat) (L : Nat → Option Nd) (told : List Int) : Prop where
  fv : ∃ v4 c, w.heap[f]? = some (.cells #[.int .i64 b, .int .i64 s, .int .i64 p, .slice (some ⟨g, 0, none⟩) n c, v4] 67 (0, 0)) ∧ Kd.R (Kd.int .i64) 3 w base (fun _ => True) v4 told
  gv : ∃ gc, w.heap[g]? = some (.cells gc 40 (0, 0)) ∧ ∀ j, j < n → gc[j]? = some (ptr (H j))
  nd : RNds w b s p n H L
  bf : base ≤ f
  bg : base ≤ g
  bh : ∀ j k, j < n → H j = some k → base ≤ k
theorem RNds.keep {w w' : World} {S : Nat → Prop} {b s p : Int} {n : Nat} {H : Nat → Option Nat} {L : Nat → Option Nd} (h : RNds w b s p n H L) (hc : Ch S w w') (hS : ∀ k, FS H n k → ¬ S k) : RNds w' b s p n H L :=
  ⟨fun j hj => (h.at_ j hj).keep fun k e => hc.keep k ((h.at_ j hj).lt e) (hS k ⟨j, hj, e⟩), h.inj⟩
theorem RFld.keep {w w' : World} {S : Nat → Prop} {base f g : Nat} {b s p : Int} {n : Nat} {H : Nat → Option Nat} {L : Nat → Option Nd} {told : List Int} (h : RFld w base f g b s p n H L told) (hc : Ch S w w') (hS : ∀ k cs t, S k → w.heap[k]? = some (.cells cs t (0, 0)) → t ≠ 67 ∧ t ≠ 40 ∧ t ≠ 47 ∧ t ≠ 3) :
    RFld w' base f g b s p n H L told := by
  obtain ⟨v4, cp, h1, h2⟩ := h.fv
  obtain ⟨gc, h3, h4⟩ := h.gv
  exact ⟨⟨v4, cp, hc.blk h1 (fun q => (hS _ _ _ q h1).1 rfl), R_ch h2 hc (fun k cs q hh => (hS k cs 3 q hh).2.2.2 rfl)⟩, ⟨gc, hc.blk h3 (fun q => (hS _ _ _ q h3).2.1 rfl), h4⟩,
    h.nd.keep hc (fun k q hs => by obtain ⟨cs, hh⟩ := FS.rtyped h.nd q; exact (hS k cs 47 hs hh).2.2.1 rfl), h.bf, h.bg, h.bh⟩
theorem RFld.below {w w' : World} {base f g : Nat} {b s p : Int} {n : Nat} {H : Nat → Option Nat} {L : Nat → Option Nd} {told : List Int} (h : RFld w base f g b s p n H L told) (hb : Below w.heap.size w w') : RFld w' base f g b s p n H L told :=
  h.keep (Ch.of hb (fun _ => False)) (fun _ _ _ q => q.elim)
theorem RFld.base_le {w : World} {base f g : Nat} {b s p : Int} {n : Nat} {H : Nat → Option Nat} {L : Nat → Option Nd} {told : List Int} (h : RFld w base f g b s p n H L told) : ∀ k, FldS f g H n k → base ≤ k := by
  rintro k (rfl | rfl | ⟨j, hj, e⟩)
  · exact h.bf
  · exact h.bg
  · exact h.bh j k hj e
theorem RFld.put {w w' : World} {base f g n k : Nat} {b s p : Int} {H : Nat → Option Nat} {L : Nat → Option Nd} {told : List Int} (h : RFld w base f g b s p n H L told) (hk : k < n) (q : Option Nat) (x : Option Nd)
    (hw : Below w.heap.size w w') (hn : RNO w' b s p k q x) (hq : ∀ i, q = some i → w.heap.size ≤ i) (hb : base ≤ w.heap.size) :
    RFld (w'.setCell ⟨g, k, none⟩ (ptr q)) base f g b s p n (upd H k q) (upd L k x) told := by
  have h' := h.below hw
  obtain ⟨v4, cp, h1, h2⟩ := h'.fv
  obtain ⟨gc, h3, h4⟩ := h'.gv
  have hfg : f ≠ g := fun e => by rw [e] at h1; exact absurd (blk_type h1 h3) (by decide)
  have hsz : k < gc.size := by
    have := h4 k hk
    exact (Array.getElem?_eq_some_iff.1 this).1
  refine ⟨⟨v4, cp, blk_far h1 hfg _, Kd.R_set h2 h3 (row_ne (by decide)) k (ptr q)⟩, ⟨gc.setIfInBounds k (ptr q), blk_set h3 k (ptr q), fun j hj => ?_⟩, ⟨fun j hj => ?_, fun i j r hi hj e1 e2 => ?_⟩, h.bf, h.bg, fun j r hj e => ?_⟩
  · by_cases e : j = k
    · subst e
      rw [upd_at]
      simp [hsz]
    · rw [upd_ne _ _ e, Array.getElem?_setIfInBounds_ne (fun e' => e e'.symm)]
      exact h4 j hj
  · by_cases e : j = k
    · subst e
      rw [upd_at, upd_at]
      exact hn.keep fun r er => Below.heap_setCell _ _ _ _ (fun e' => by
        obtain ⟨cs, hh⟩ := hn.typed er
        rw [e'] at hh
        exact absurd (blk_type hh h3) (by decide))
    · rw [upd_ne _ _ e, upd_ne _ _ e]
      have h5 := h'.nd.at_ j hj
      exact h5.keep fun r er => Below.heap_setCell _ _ _ _ (fun e' => by
        obtain ⟨cs, hh⟩ := h5.typed er
        rw [e'] at hh
        exact absurd (blk_type hh h3) (by decide))
  · by_cases ei : i = k
    · by_cases ej : j = k
      · rw [ei, ej]
      · rw [ei, upd_at] at e1
        rw [upd_ne _ _ ej] at e2
        have a1 := hq r e1
        have a2 := (h.nd.at_ j hj).lt e2
        omega
    · by_cases ej : j = k
      · rw [ej, upd_at] at e2
        rw [upd_ne _ _ ei] at e1
        have a1 := hq r e2
        have a2 := (h.nd.at_ i hi).lt e1
        omega
      · rw [upd_ne _ _ ei] at e1
        rw [upd_ne _ _ ej] at e2
        exact h.nd.inj i j r hi hj e1 e2
  · by_cases ej : j = k
    · rw [ej, upd_at] at e
      exact Nat.le_trans hb (hq r e)
    · rw [upd_ne _ _ ej] at e
      exact h.bh j r hj e
theorem RFTick_fin {base f g n cp : Nat} {b s p : Int} {H : Nat → Option Nat} {L L' : Nat → Option Nd} {told T : List Int} {w W1 w2 : World} {v v4 : Value} (h : RFld w base f g b s p n H L told) (hbase : base ≤ w.heap.size)
    (hf : w.heap[f]? = some (.cells #[.int .i64 b, .int .i64 s, .int .i64 p, .slice (some ⟨g, 0, none⟩) n cp, v4] 67 (0, 0))) (hb1 : Below w.heap.size w W1) (hr : Kd.R (Kd.int .i64) 3 w2 W1.heap.size (fun _ => True) v T) (hc : Ch (FS H n) W1 w2) (hn : RNds w2 b s p n H L') :
    RFld (w2.setCell ⟨f, 4, none⟩ v) base f g b s p n H L' T ∧ Ch (FldS f g H n) w (w2.setCell ⟨f, 4, none⟩ v) ∧ w2.heap[f]? = some (.cells #[.int .i64 b, .int .i64 s, .int .i64 p, .slice (some ⟨g, 0, none⟩) n cp, v4] 67 (0, 0)) := by
  obtain ⟨gc, h3, h4⟩ := h.gv
  have hN1 : RNds W1 b s p n H L := h.nd.keep (Ch.of hb1 (fun _ => False)) (fun _ _ q => q)
  have hf1 := blk_below hf hb1
  have hg1 := blk_below h3 hb1
  have hf2 := hc.blk hf1 (not_RFS hN1 hf1 (by decide))
  have hg2 := hc.blk hg1 (not_RFS hN1 hg1 (by decide))
  have hfg : g ≠ f := fun e => by rw [e] at h3; exact absurd (blk_type h3 hf) (by decide)
  refine ⟨⟨⟨v, cp, by simpa using blk_set hf2 4 v, Kd.R_lower (Kd.R_set hr hf2 (row_ne (by decide)) 4 v) (Nat.le_trans hbase hb1.size)⟩, ⟨gc, blk_far hg2 hfg v, h4⟩, ?_, h.bf, h.bg, h.bh⟩, ?_, hf2⟩
  · exact hn.keep (S := fun k => k = f) ((Ch.refl _ _).setg _) (fun k q e => by
      obtain ⟨cs, hh⟩ := FS.rtyped hn q
      rw [e] at hh
      exact absurd (blk_type hh hf2) (by decide))
  · have c1 : Ch (FldS f g H n) w w2 := (Ch.of hb1 _).trans (hc.mono fun k q => .inr (.inr q))
    exact c1.set (p := ⟨f, 4, none⟩) (.inl (.inl rfl)) v
theorem RNO.some {w : World} {b s p : Int} {j : Nat} {h : Option Nat} {x : Option Nd} (hn : RNO w b s p j h x) : h.isSome = x.isSome := by
  cases h <;> cases x <;> first | rfl | exact hn.elim
end Go.Proofs.Ytcgkbbfnlbjblaa.P
