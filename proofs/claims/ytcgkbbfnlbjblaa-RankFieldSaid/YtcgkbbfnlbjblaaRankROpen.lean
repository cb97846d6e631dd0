/- The document's field of nodes is opened: the walk. Conditions: the ranges that each lemma names. -/
import Derived.Test.YtcgkbbfnlbjblaaRankRField
namespace Go.Proofs.Ytcgkbbfnlbjblaa.P
open Go.RowKit Go.Proofs.YtcgkbbfnlbjblaaW.PrintWords Go.Proofs.YtcgkbbfnlbjblaaW.PrintLast Go.Proofs.YtcgkbbfnlbjblaaW.PrintMore
set_option linter.unusedVariables false
set_option linter.unusedSimpArgs false
theorem ROpen_no (b s p n : Int) (w : World) (h : (rightB b s p && decide (1 ≤ n ∧ n ≤ 32)) = false) :
    Calls Try.prog 24 #[.agg #[.int .i64 b, .int .i64 s, .int .i64 p], .int .i64 n] w fun e w' => e = .returned (.tuple #[.pointer none, .int .i64 1]) ∧ Below w.heap.size w w' := by
  have hu28 := Try.underlying28
  have H1 := Aside0.mk (RefRight_eq b s p)
  have BK0 : Aside0 ((w.alloc (.cells #[.int .i64 b, .int .i64 s, .int .i64 p] 28)).heap[w.heap.size]? = some (.cells #[.int .i64 b, .int .i64 s, .int .i64 p] 28 (0, 0))) := ⟨blk_new _ _⟩
  have B0 : Aside0 (Below w.heap.size w (w.alloc (.cells #[.int .i64 b, .int .i64 s, .int .i64 p] 28))) := ⟨below_alloc (Below.refl _ _) _⟩
  have c0 := (blk_cell BK0.out 0).trans rfl
  have c1 := (blk_cell BK0.out 1).trans rfl
  have c2 := (blk_cell BK0.out 2).trans rfl
  cases h1 : rightB b s p
  · rw [h1] at H1
    clear h h1
    go_enter Try.func24, Try.ntmps24
    go_wp2_with fail
    (with_reducible refine (bellbuoyref21_Right.calls b s p false _ H1.out).mono ?_); rintro e w1 ⟨rfl, hd⟩
    have B1 : Aside0 (Below w.heap.size w w1) := ⟨below_step B0.out hd⟩
    clear hd
    go_wp2_with fail
    go_ret2
    exact ⟨rfl, B1.out⟩
  · have h3 : ¬ (1 ≤ n ∧ n ≤ 32) := by simpa [h1] using h
    rw [h1] at H1
    clear h h1
    by_cases r0 : n < 1
    · have u1 : decide (n < 1) = true := decide_eq_true r0
      clear h3 r0
      go_enter Try.func24, Try.ntmps24
      go_wp2_with fail
      (with_reducible refine (bellbuoyref21_Right.calls b s p true _ H1.out).mono ?_); rintro e w1 ⟨rfl, hd⟩
      have B1 : Aside0 (Below w.heap.size w w1) := ⟨below_step B0.out hd⟩
      clear hd
      go_wp2_with fail
      go_ret2
      exact ⟨rfl, B1.out⟩
    · have u1 : decide (n < 1) = false := decide_eq_false r0
      have u2 : decide (n > 32) = true := decide_eq_true (by omega)
      have u3 : decide (32 < n) = true := decide_eq_true (by omega)
      clear h3 r0
      go_enter Try.func24, Try.ntmps24
      go_wp2_with fail
      (with_reducible refine (bellbuoyref21_Right.calls b s p true _ H1.out).mono ?_); rintro e w1 ⟨rfl, hd⟩
      have B1 : Aside0 (Below w.heap.size w w1) := ⟨below_step B0.out hd⟩
      clear hd
      go_wp2_with fail
      go_ret2
      exact ⟨rfl, B1.out⟩
def nptr (q : Nat) : Value := .pointer (some ⟨q, 0, none⟩)
def PK : Kd Nat := Kd.scalar nptr (fun _ => rfl)
theorem info40 : (Try.prog.info? 40).map (fun i => (i.zero, i.size, i.bytes)) = some (some (.pointer none), PK.sz, 8) := by kernel_rfl
theorem pk_ne {t : Nat} (ht : 40 ≠ t) : ∀ q, q ∈ 40 :: PK.E → q ≠ t := fun q hq => by
  have : q = 40 := by simpa [PK, Kd.scalar] using hq
  rw [this]
  exact ht
structure OP (w W : World) (fb : Nat) (b s p : Int) (k : Nat) (Hs : List Nat) (v : Value) : Prop where
  hf : W.heap[fb]? = some (.cells #[.int .i64 b, .int .i64 s, .int .i64 p, v, .slice none 0 0] 67 (0, 0))
  hr : Kd.R PK 40 W w.heap.size (fun _ => True) v Hs
  hl : Hs.length = k
  hn : ∀ (j q : Nat), Hs[j]? = some q → RAt W q b s p (j : Int) ⟨false, 0, 0⟩
  inj : ∀ i j q : Nat, Hs[i]? = some q → Hs[j]? = some q → i = j
  lo : ∀ j q : Nat, Hs[j]? = some q → w.heap.size ≤ q
  bx : W.heap[w.heap.size]? = some (.cells #[.int .i64 b, .int .i64 s, .int .i64 p] 28 (0, 0))
  B : Below w.heap.size w W
  bf : w.heap.size ≤ fb
theorem OP.below {w W W' : World} {fb : Nat} {b s p : Int} {k : Nat} {Hs : List Nat} {v : Value} (h : OP w W fb b s p k Hs v) (hb : Below W.heap.size W W') : OP w W' fb b s p k Hs v :=
  ⟨blk_below h.hf hb, Kd.R_below h.hr hb, h.hl, fun j q e => blk_below (h.hn j q e) hb, h.inj, h.lo, blk_below h.bx hb, below_step h.B hb, h.bf⟩
theorem OP.snoc {w W W' : World} {fb q : Nat} {b s p : Int} {k : Nat} {Hs : List Nat} {v v1 : Value} (h : OP w W fb b s p k Hs v) (hq : RAt W q b s p (k : Int) ⟨false, 0, 0⟩) (hnew : ∀ j q' : Nat, Hs[j]? = some q' → q' ≠ q) (hlo : w.heap.size ≤ q)
    (hr : Kd.R PK 40 W' w.heap.size (fun _ => True) v1 (Hs ++ [q])) (hB : Below w.heap.size W W') (hg : W.grownBy W' v.ownBlock) : OP w (W'.setCell ⟨fb, 3, none⟩ v1) fb b s p (k + 1) (Hs ++ [q]) v1 := by
  have keep : ∀ {k' t : Nat} {cs : Array Value}, W.heap[k']? = some (.cells cs t (0, 0)) → 40 ≠ t → W'.heap[k']? = some (.cells cs t (0, 0)) := fun hk ht => (hg.block _ (blk_lt hk) (Kd.R_ne h.hr hk ht)).trans hk
  have hf := keep h.hf (by decide)
  have ne : ∀ {k' t : Nat} {cs : Array Value}, W.heap[k']? = some (.cells cs t (0, 0)) → t ≠ 67 → k' ≠ fb := fun hk ht e => by rw [e] at hk; exact ht (blk_type hk h.hf)
  have at_ : ∀ j q' : Nat, (Hs ++ [q])[j]? = some q' → (Hs[j]? = some q') ∨ (j = k ∧ q' = q) := fun j q' e => by
    by_cases hj : j < Hs.length
    · rw [List.getElem?_append_left hj] at e
      exact .inl e
    · rw [List.getElem?_append_right (by omega)] at e
      have h0 : j - Hs.length = 0 := by
        rcases Nat.eq_zero_or_pos (j - Hs.length) with z | z
        · exact z
        · rw [List.getElem?_eq_none (by simp; omega)] at e
          cases e
      rw [h0] at e
      have := h.hl
      exact .inr ⟨by omega, by simpa using e.symm⟩
  refine ⟨by simpa using blk_set hf 3 v1, Kd.R_set hr hf (pk_ne (by decide)) 3 v1, by rw [List.length_append, h.hl]; rfl, fun j q' e => ?_, fun i j q' e1 e2 => ?_, fun j q' e => ?_, ?_, h.B.trans (hB.setCell (p := ⟨fb, 3, none⟩) h.bf _), h.bf⟩
  · rcases at_ j q' e with e | ⟨rfl, rfl⟩
    · have a := h.hn j q' e
      exact blk_far (keep a (by decide)) (ne a (by decide)) _
    · exact blk_far (keep hq (by decide)) (ne hq (by decide)) _
  · rcases at_ i q' e1 with a1 | ⟨r1, r2⟩
    · rcases at_ j q' e2 with a2 | ⟨t1, t2⟩
      · exact h.inj i j q' a1 a2
      · exact absurd t2 (hnew i q' a1)
    · rcases at_ j q' e2 with a2 | ⟨t1, t2⟩
      · exact absurd r2 (hnew j q' a2)
      · omega
  · rcases at_ j q' e with e | ⟨rfl, rfl⟩
    · exact h.lo j q' e
    · exact hlo
  · exact blk_far (keep h.bx (by decide)) (ne h.bx (by decide)) _
theorem OP.fld {w W : World} {fb : Nat} {b s p : Int} {n : Nat} {Hs : List Nat} {v : Value} (h : OP w W fb b s p n Hs v) (hn : 1 ≤ n) : ∃ g, RFld W w.heap.size fb g b s p n (fun j => Hs[j]?) (openL n) [] := by
  have hl := h.hl
  obtain ⟨inner, ho⟩ := Kd.R_own h.hr
  obtain ⟨A, c, e, _, hC⟩ := Kd.R_reads h.hr
  have hf := h.hf
  rcases ho.2 with ⟨rfl, h0⟩ | ⟨g, cap, cur, rfl, hg, hh, r⟩
  · omega
  · injection e with e1 e2 e3
    subst e1; subst e3
    rw [hl] at hf
    obtain ⟨ad, e4, hx⟩ := hC.2.2 (by omega)
    injection e4 with e4
    subst e4
    refine ⟨g, ⟨⟨_, _, hf, Kd.R_nil _ _ _ _ _⟩, ⟨cur, hh, fun j hj => ?_⟩, ⟨fun j hj => ?_, fun i j k _ _ e1 e2 => h.inj i j k e1 e2⟩, h.bf, hg, fun j k _ e => h.lo j k e⟩⟩
    · have hj2 : j < Hs.length := by omega
      obtain ⟨cs, _, hcs, hcell⟩ := hx j _ (List.getElem?_eq_getElem hj2)
      have hcs' : cs = [nptr Hs[j]] := hcs
      have c1 := hcell 0 _ (by rw [hcs']; rfl)
      have e5 : (⟨g, 0, none⟩ : Addr).add (j * PK.sz + 0) = ⟨g, j, none⟩ := by
        show (⟨g, 0, none⟩ : Addr).add (j * 1 + 0) = _
        unfold Addr.add
        by_cases z : j = 0 <;> simp [z]
      rw [e5, blk_cell hh j] at c1
      rw [c1, List.getElem?_eq_getElem hj2]
      rfl
    · have hj2 : j < Hs.length := by omega
      show RNO W b s p j Hs[j]? (openL n j)
      rw [List.getElem?_eq_getElem hj2, show openL n j = some ⟨false, 0, 0⟩ from if_pos hj]
      exact h.hn j _ (List.getElem?_eq_getElem hj2)
set_option maxHeartbeats 8000000 in
set_option maxRecDepth 100000 in
theorem ROpen_yes (b s p : Int) (n : Nat) (w : World) (h1 : rightB b s p = true) (n0 : 1 ≤ n) (n1 : n ≤ 32) :
    Calls Try.prog 24 #[.agg #[.int .i64 b, .int .i64 s, .int .i64 p], .int .i64 (n : Int)] w fun e w' => ∃ f g H, e = .returned (.tuple #[.pointer (some ⟨f, 0, none⟩), .int .i64 0]) ∧ RFld w' w.heap.size f g b s p n H (openL n) [] ∧ Below w.heap.size w w' := by
  have hu28 := Try.underlying28
  have hu67 := Try.underlying67
  have H1 := Aside0.mk (RefRight_eq b s p)
  have HR := Aside0.mk h1
  have N1 := Aside0.mk (And.intro n0 n1)
  rw [h1] at H1
  have u1 : decide ((n : Int) < 1) = false := decide_eq_false (by omega)
  have u2 : decide ((n : Int) > 32) = false := decide_eq_false (by omega)
  have u3 : decide ((32 : Int) < (n : Int)) = false := decide_eq_false (by omega)
  have u4 : decide (32 < n) = false := decide_eq_false (by omega)
  have u5 : decide (n < 1) = false := decide_eq_false (by omega)
  have BK0 : Aside0 ((w.alloc (.cells #[.int .i64 b, .int .i64 s, .int .i64 p] 28)).heap[w.heap.size]? = some (.cells #[.int .i64 b, .int .i64 s, .int .i64 p] 28 (0, 0))) := ⟨blk_new _ _⟩
  have B0 : Aside0 (Below w.heap.size w (w.alloc (.cells #[.int .i64 b, .int .i64 s, .int .i64 p] 28))) := ⟨below_alloc (Below.refl _ _) _⟩
  have c0 := (blk_cell BK0.out 0).trans rfl
  have c1 := (blk_cell BK0.out 1).trans rfl
  have c2 := (blk_cell BK0.out 2).trans rfl
  clear h1 n0 n1
  go_enter Try.func24, Try.ntmps24
  go_wp2_with fail
  (with_reducible refine (bellbuoyref21_Right.calls b s p true _ H1.out).mono ?_); rintro e w1 ⟨rfl, hd⟩
  have BK1 : Aside0 (w1.heap[w.heap.size]? = some (.cells #[.int .i64 b, .int .i64 s, .int .i64 p] 28 (0, 0))) := ⟨blk_below BK0.out hd⟩
  have B1 : Aside0 (Below w.heap.size w w1) := ⟨below_step B0.out hd⟩
  clear hd c0 c1 c2 BK0 B0
  have c0 := (blk_cell BK1.out 0).trans rfl
  have c1 := (blk_cell BK1.out 1).trans rfl
  have c2 := (blk_cell BK1.out 2).trans rfl
  go_wp2_with fail
  have O0 : Aside0 (OP w (w1.alloc (.cells #[.int .i64 b, .int .i64 s, .int .i64 p, .slice none 0 0, .slice none 0 0] 67)) w1.heap.size b s p 0 [] (.slice none 0 0)) :=
    ⟨⟨blk_new _ _, Kd.R_nil _ _ _ _ _, rfl, fun j q e => (by cases e), fun i j q e => (by cases e), fun j q e => (by cases e), blk_below BK1.out (below_alloc (Below.refl _ _) _), below_step B1.out (below_alloc (Below.refl _ _) _), B1.out.size⟩⟩
  clear c0 c1 c2 BK1 B1
  go_loopg [7] n (fun kq v7 w' => ∃ (k : Nat) (Hs : List Nat) (v : Value), v7 = .int .i64 (k : Int) ∧ Aside0 (k + kq = n) ∧ Aside0 (OP w w' w1.heap.size b s p k Hs v))
  case atStart => exact ⟨0, [], _, rfl, ⟨by omega⟩, O0⟩
  case round =>
    obtain ⟨k, Hs, v, rfl, HJ, O1⟩ := hrel
    clear O0
    cases gk with
    | zero =>
      obtain rfl : k = n := by have := HJ.out; omega
      have v1 : decide ((k : Int) < (k : Int)) = false := decide_eq_false (by omega)
      go_wp2_with fail
      go_ret2
      obtain ⟨g, hfin⟩ := O1.out.fld N1.out.1
      exact ⟨_, g, _, rfl, hfin, O1.out.B⟩
    | succ k1 =>
      have hk : k < n := by have := HJ.out; omega
      have HK := Aside0.mk hk
      have v1 : decide ((k : Int) < (n : Int)) = true := decide_eq_true (by omega)
      have v2 : decide (k < n) = true := decide_eq_true hk
      have hi1 : wrap64 ((k : Int) + 1) = ((k + 1 : Nat) : Int) := by rw [i64w _ (by omega) (by have := HK.out; have := N1.out; omega)]; rfl
      have HRK : Aside0 (rankB (k : Int) = true) := ⟨decide_eq_true (by have := N1.out; omega)⟩
      have b0 := (blk_cell O1.out.bx 0).trans rfl
      have b1 := (blk_cell O1.out.bx 1).trans rfl
      have b2 := (blk_cell O1.out.bx 2).trans rfl
      clear hk
      go_wp2_with fail
      (with_reducible refine (RNew_yes b s p k _ HR.out HRK.out).mono ?_); rintro e w5 ⟨q, rfl, hq, hn, hb5⟩
      have O5 := Aside0.mk (O1.out.below hb5)
      have HQ : Aside0 (w.heap.size ≤ q) := ⟨Nat.le_trans O1.out.B.size hq⟩
      have HNEW : Aside0 (∀ j q' : Nat, Hs[j]? = some q' → q' ≠ q) := ⟨fun j q' e => by
        have := blk_lt (O1.out.hn j q' e)
        omega⟩
      have HN := Aside0.mk hn
      obtain ⟨A, c, rfl⟩ := Kd.R_slice O5.out.hr
      have d3 := (blk_cell O5.out.hf 3).trans rfl
      have f3 := blk_frozen O5.out.hf 3
      clear hq hn hb5 b0 b1 b2
      go_wp2_with (first | ((with_reducible refine gate_builtin (b := .append) (xs := #[.tmp 39, .tmp 41]) rfl ?_); at_builtin; refine Kd.R_append PK (w0 := w5) w.heap.size rfl (.tmp 39) (.tmp 41) 65 40 (.pointer none) 8 rfl Try.underlying65 info40 rfl (by decide) (by decide) _ Hs q [nptr q] (fun _ => True) (fun _ => False) rfl rfl ?aP (fun _ hk => hk.elim) ?aF ?aO ?aB ?aS ?aL ?_; (case aP => exact rfl); (case aB => exact Below.refl _ _); (case aF => exact (fun _ _ => trivial)); (case aO => exact O5.out.hr); (case aS => exact O5.out.B.size); (case aL => have := O5.out.hl; have := HK.out; have := N1.out; omega); intro v3 w3 ho hb hg hat; have HB3 := Aside0.mk hb; have HG3 := Aside0.mk hg; (obtain ⟨A3, c3, rfl⟩ := Kd.R_slice ho); rw [List.length_append, List.length_singleton] at ho; have HR3 := Aside0.mk ho; have hF3 := (hg.block _ (blk_lt O5.out.hf) (Kd.R_ne O5.out.hr O5.out.hf (by decide))).trans O5.out.hf; have d4 := (blk_cell hF3 3).trans rfl; have f4 := blk_frozen hF3 3; clear hF3 ho hb hg hat))
      go_roundg k1
      case measure => omega
      case rel => exact ⟨k + 1, _, _, by first | rw [hi1] | rfl, ⟨by have := HJ.out; omega⟩, ⟨O5.out.snoc HN.out HNEW.out HQ.out HR3.out HB3.out HG3.out⟩⟩
end Go.Proofs.Ytcgkbbfnlbjblaa.P
