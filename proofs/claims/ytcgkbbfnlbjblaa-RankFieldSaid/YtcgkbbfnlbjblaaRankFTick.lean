/- A field of nodes by the program: a tick, and a node switched on or off. Conditions: the ranges that each lemma names. -/
import Derived.Test.YtcgkbbfnlbjblaaRankFld
namespace Go.Proofs.Ytcgkbbfnlbjblaa.P
open Go.RowKit Go.Proofs.YtcgkbbfnlbjblaaW.PrintWords Go.Proofs.YtcgkbbfnlbjblaaW.PrintLast Go.Proofs.YtcgkbbfnlbjblaaW.PrintMore
set_option linter.unusedVariables false
set_option linter.unusedSimpArgs false
/-- What a tick leaves. -/
def tickT (W : Nat → Int) (p : Int) (n : Nat) (L : Nat → Option Nd) (told : List Int) (lost : Bool) : List Int := toldL (fun j => (tickO (W j) p j (if lost = true then [] else told) (L j)).1) n
def tickL (W : Nat → Int) (p : Int) (L : Nat → Option Nd) (told : List Int) (lost : Bool) (j : Nat) : Option Nd := (tickO (W j) p j (if lost = true then [] else told) (L j)).2
theorem row_ne {t : Nat} (ht : 3 ≠ t) : ∀ q, q ∈ 3 :: (Kd.int .i64).E → q ≠ t := fun q hq => by
  have : q = 3 := by simpa [Kd.int, Kd.scalar] using hq
  rw [this]
  exact ht
theorem FTick_fin {base f g n : Nat} {b s p : Int} {H : Nat → Option Nat} {L L' : Nat → Option Nd} {told T : List Int} {w W1 w2 : World} {v v4 : Value} (h : Fld w base f g b s p n H L told) (hbase : base ≤ w.heap.size)
    (hf : w.heap[f]? = some (.cells #[.int .i64 b, .int .i64 s, .int .i64 p, .slice (some ⟨g, 0, none⟩) n n, v4] 81 (0, 0))) (hb1 : Below w.heap.size w W1) (hr : Kd.R (Kd.int .i64) 3 w2 W1.heap.size (fun _ => True) v T) (hc : Ch (FS H n) W1 w2) (hn : Nds w2 b s p n H L') :
    Fld (w2.setCell ⟨f, 4, none⟩ v) base f g b s p n H L' T ∧ Ch (FldS f g H n) w (w2.setCell ⟨f, 4, none⟩ v) ∧ w2.heap[f]? = some (.cells #[.int .i64 b, .int .i64 s, .int .i64 p, .slice (some ⟨g, 0, none⟩) n n, v4] 81 (0, 0)) := by
  obtain ⟨gc, h3, h4⟩ := h.gv
  have hN1 : Nds W1 b s p n H L := h.nd.keep (Ch.of hb1 (fun _ => False)) (fun _ _ q => q)
  have hf1 := blk_below hf hb1
  have hg1 := blk_below h3 hb1
  have hf2 := hc.blk hf1 (not_FS hN1 hf1 (by decide))
  have hg2 := hc.blk hg1 (not_FS hN1 hg1 (by decide))
  have hfg : g ≠ f := fun e => by rw [e] at h3; exact absurd (blk_type h3 hf) (by decide)
  refine ⟨⟨⟨v, by simpa using blk_set hf2 4 v, Kd.R_lower (Kd.R_set hr hf2 (row_ne (by decide)) 4 v) (Nat.le_trans hbase hb1.size)⟩, ⟨gc, blk_far hg2 hfg v, h4⟩, ?_, h.bf, h.bg, h.bh⟩, ?_, hf2⟩
  · exact hn.keep (S := fun k => k = f) ((Ch.refl _ _).setg _) (fun k q e => by
      obtain ⟨cs, hh⟩ := FS.typed hn q
      rw [e] at hh
      exact absurd (blk_type hh hf2) (by decide))
  · have c1 : Ch (FldS f g H n) w w2 := (Ch.of hb1 _).trans (hc.mono fun k q => .inr (.inr q))
    exact c1.set (p := ⟨f, 4, none⟩) (.inl (.inl rfl)) v
set_option maxHeartbeats 4000000 in
set_option maxRecDepth 100000 in
theorem FTick_calls (lost : Bool) (base f g n : Nat) (b s p : Int) (W : Nat → Int) (H : Nat → Option Nat) (L : Nat → Option Nd) (told : List Int) (w : World) (h : Fld w base f g b s p n H L told) (hbase : base ≤ w.heap.size) (n1 : n ≤ 32)
    (hw : ∀ j, j < n → rank_Wait.f b s p (j : Int) = some (W j)) (ok : ∀ j y, j < n → L j = some y → NdOk (W j) p y) (w1 : ∀ j, j < n → W j ≤ 1000000) (p0 : 1 ≤ p) (p1 : p ≤ 1000) :
    Calls Try.prog 30 #[.pointer (some ⟨f, 0, none⟩), .bool lost] w fun e w' => (∃ v, e = .returned v) ∧ Fld w' base f g b s p n H (tickL W p L told lost) (tickT W p n L told lost) ∧ Ch (FldS f g H n) w w' := by
  obtain ⟨v4, h1, h2⟩ := h.fv
  obtain ⟨gc, h3, h4⟩ := h.gv
  obtain ⟨A, c, rfl, hl, hC⟩ := Kd.R_reads h2
  have H0 := Aside0.mk h
  have HBS := Aside0.mk hbase
  have H1 := Aside0.mk h1
  have H2 := Aside0.mk h2
  have H3 := Aside0.mk h3
  have H4 := Aside0.mk h4
  have HN := Aside0.mk h.nd
  have N1 := Aside0.mk n1
  have HW := Aside0.mk hw
  have OK := Aside0.mk ok
  have W1 := Aside0.mk w1
  have PP := Aside0.mk (And.intro p0 p1)
  have HL := Aside0.mk hl
  have c4 : w.cell? ⟨f, 4, none⟩ = some (.slice A told.length c) := (blk_cell h1 4).trans rfl
  have f4 := blk_frozen h1 4
  clear h1 h2 h3 h4 h n1 hw ok w1 p0 p1 hl hC hbase
  cases lost
  · have HB1 : Aside0 (Below w.heap.size w (w.alloc (.cells #[.slice A told.length c] 43))) := ⟨below_alloc (Below.refl _ _) _⟩
    have HX1 : Aside0 ((w.alloc (.cells #[.slice A told.length c] 43)).heap[w.heap.size]? = some (.cells #[.slice A told.length c] 43 (0, 0))) := ⟨blk_new _ _⟩
    go_enter Try.func30, Try.ntmps30
    go_wp2_with fail
    (with_reducible refine (ThoseTick_calls f g w.heap.size n c b s p #[] gc W H L A told (.slice A told.length c) _ (blk_below H1.out HB1.out) (blk_below H3.out HB1.out) H4.out HX1.out HL.out (Kd.R_lower (Kd.R_below H2.out HB1.out) (Nat.zero_le _)) (HN.out.keep (Ch.of HB1.out (fun _ => False)) (fun _ _ q => q)) N1.out HW.out OK.out W1.out PP.out.1 PP.out.2).mono ?_); rintro e w2 ⟨v, rfl, hr, hc, hn⟩
    obtain ⟨F1, F2, F3⟩ := FTick_fin H0.out HBS.out H1.out HB1.out hr hc hn
    have G1 := Aside0.mk F1
    have G2 := Aside0.mk F2
    have c4' := (blk_cell F3 4).trans rfl
    have f4' := blk_frozen F3 4
    obtain ⟨A2, c2, rfl⟩ := Kd.R_slice hr
    clear F1 F2 F3 hr hc hn
    go_wp2_with fail
    go_end0
    exact ⟨⟨_, rfl⟩, G1.out, G2.out⟩
  · have HB1 : Aside0 (Below w.heap.size w (w.alloc (.cells #[.slice none 0 0] 43))) := ⟨below_alloc (Below.refl _ _) _⟩
    have HX1 : Aside0 ((w.alloc (.cells #[.slice none 0 0] 43)).heap[w.heap.size]? = some (.cells #[.slice none ([] : List Int).length 0] 43 (0, 0))) := ⟨blk_new _ _⟩
    go_enter Try.func30, Try.ntmps30
    go_wp2_with fail
    (with_reducible refine (ThoseTick_calls f g w.heap.size n 0 b s p #[] gc W H L none [] (.slice A told.length c) _ (blk_below H1.out HB1.out) (blk_below H3.out HB1.out) H4.out HX1.out (Nat.le_refl _) (Kd.R_nil _ _ _ _ _) (HN.out.keep (Ch.of HB1.out (fun _ => False)) (fun _ _ q => q)) N1.out HW.out OK.out W1.out PP.out.1 PP.out.2).mono ?_); rintro e w2 ⟨v, rfl, hr, hc, hn⟩
    obtain ⟨F1, F2, F3⟩ := FTick_fin H0.out HBS.out H1.out HB1.out hr hc hn
    have G1 := Aside0.mk F1
    have G2 := Aside0.mk F2
    have c4' := (blk_cell F3 4).trans rfl
    have f4' := blk_frozen F3 4
    obtain ⟨A2, c2, rfl⟩ := Kd.R_slice hr
    clear F1 F2 F3 hr hc hn
    go_wp2_with fail
    go_end0
    exact ⟨⟨_, rfl⟩, G1.out, G2.out⟩
end Go.Proofs.Ytcgkbbfnlbjblaa.P
