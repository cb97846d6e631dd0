/- A pair's methods, walked by hand: a bit goes by, both are noted, what was noted is applied, and what is told. Conditions: each lemma names them. -/
import Derived.Test.YtgnkmpgnlpjglaaAccordPair
namespace Go.Proofs.Ytgnkmpgnlpjglaa.P
open Go.RowKit Go.Proofs.YtgnkmpgnlpjglaaW.PrintWords Go.Proofs.YtgnkmpgnlpjglaaW.PrintLast Go.Proofs.YtgnkmpgnlpjglaaW.PrintMore
set_option linter.unusedVariables false
set_option linter.unusedSimpArgs false
theorem AS.next_eq (S : AS) {c1 c2 t1 t2 l1 l2 : Int} {w1 w2 o1 o2 f : Bool} (hm : lookV S.rm S.bm S.km c1 = (t1, o1)) (hl1 : readV S.lm t1 o1 = l1) (hs : lookV S.rs S.bs S.ks c2 = (t2, o2)) (hl2 : readV S.ls t2 o2 = l2)
    (hf : (S.follows || (S.applied.isSome && o2 && (t2 == l2))) = f) : S.next c1 w1 c2 w2 = { S with cm := c1, wm := w1, cs := c2, ws := w2, bits := wrap64 (S.bits + 1), lm := l1, ls := l2, follows := f } := by
  unfold AS.next
  rw [hm, hs]
  simp only [hl1, hl2, hf]
/-- All but a pair's own five blocks is as it was. -/
def Keep5 (W W' : World) (p mo mc so sc : Nat) : Prop := W.heap.size ≤ W'.heap.size ∧ ∀ k, k < W.heap.size → k ≠ p → k ≠ mo → k ≠ mc → k ≠ so → k ≠ sc → W'.heap[k]? = W.heap[k]?
theorem Keep5.below {W W' : World} {p mo mc so sc : Nat} (hb : Below W.heap.size W W') : Keep5 W W' p mo mc so sc := ⟨hb.size, fun k hk _ _ _ _ _ => hb.block k hk⟩
theorem Keep5.trans {W W1 W2 : World} {p mo mc so sc : Nat} (h : Keep5 W W1 p mo mc so sc) (k : Keep5 W1 W2 p mo mc so sc) : Keep5 W W2 p mo mc so sc :=
  ⟨Nat.le_trans h.1 k.1, fun i hi a b c d e => (k.2 i (Nat.lt_of_lt_of_le hi h.1) a b c d e).trans (h.2 i hi a b c d e)⟩
theorem Keep5.at_ {W W' : World} {p mo mc so sc g : Nat} (h : KeepBut W W' g none) (hg : g = p ∨ g = mo ∨ g = mc ∨ g = so ∨ g = sc) : Keep5 W W' p mo mc so sc :=
  ⟨h.1, fun k hk a b c d e => h.2 k hk (by rcases hg with rfl | rfl | rfl | rfl | rfl <;> assumption) (by simp)⟩
theorem PA.eta {w W : World} {p mo mc so sc : Nat} {n d tu : Int} {S S' : AS} {vn va : Value} (h : PA w W p mo mc so sc n d tu S vn va) (e : S = S') : PA w W p mo mc so sc n d tu S' vn va := e ▸ h
set_option maxHeartbeats 8000000 in
set_option maxRecDepth 100000 in
theorem PStep (w W : World) (p mo mc so sc : Nat) (n d tu : Int) (S : AS) (vn va : Value) (x y r : Int) (S' : AS) (h : PA w W p mo mc so sc n d tu S vn va) (n0 : 1 ≤ n) (n1 : n ≤ 1048576) (hs : stepS n d S x y = (r, S')) :
    Calls Try.prog 25 #[.pointer (some ⟨p, 0, none⟩), .int .i64 x, .int .i64 y] W fun e W' => e = .returned (.int .i64 r) ∧ PA w W' p mo mc so sc n d tu S' vn va ∧ Keep5 W W' p mo mc so sc := by
  have H := Aside0.mk h
  have HN := Aside0.mk (And.intro n0 n1)
  clear h n0 n1
  rcases h1 : stepF n d S.cm S.wm x with ⟨r1, c1, w1⟩
  rcases h2 : stepF n d S.cs S.ws y with ⟨r2, c2, w2⟩
  have H1 := Aside0.mk h1
  have H2 := Aside0.mk h2
  have b1 := Aside0.mk (stepF_bounds h1 H.out.ok.cm.1 H.out.ok.cm.2)
  have b2 := Aside0.mk (stepF_bounds h2 H.out.ok.cs.1 H.out.ok.cs.2)
  unfold stepS at hs
  rw [h1, h2] at hs
  simp only [] at hs
  have hu66 := Try.underlying104
  have hu70 := Try.underlying108
  obtain ⟨u2, u3, u4, u5, u6, u7, u8, u9, u10, z7, z8, z9, z10⟩ := H.out.cells
  (try dsimp only at u2 u3 u4 u5 u6 u7 u8 u9 u10 z7 z8 z9 z10)
  by_cases e1 : r1 = 0
  case neg =>
    rw [if_neg e1] at hs
    simp only [Prod.mk.injEq] at hs
    obtain ⟨rfl, rfl⟩ := hs
    have f1 : (r1 != 0) = true := by rw [bne_iff_ne]; exact e1
    clear h1 h2 e1
    go_enter Try.func25, Try.ntmps25
    go_wp2_with fail
    (with_reducible refine (may_calls mo mc n d S.cm x r1 c1 S.wm w1 _ H.out.om H.out.ok.cm HN.out.1 HN.out.2 H1.out).mono ?_); rintro e w3 ⟨rfl, hb⟩
    go_wp2_with fail
    go_ret
    exact ⟨rfl, H.out.below hb, Keep5.below hb⟩
  subst e1
  rw [if_pos rfl] at hs
  by_cases e2 : r2 = 0
  case neg =>
    rw [if_neg e2] at hs
    simp only [Prod.mk.injEq] at hs
    obtain ⟨rfl, rfl⟩ := hs
    have f2 : (r2 != 0) = true := by rw [bne_iff_ne]; exact e2
    obtain ⟨rfl, rfl⟩ := stepF_same h2 e2
    clear h1 h2 e2
    go_enter Try.func25, Try.ntmps25
    go_wp2_with fail
    (with_reducible refine (may_calls mo mc n d S.cm x 0 c1 S.wm w1 _ H.out.om H.out.ok.cm HN.out.1 HN.out.2 H1.out).mono ?_); rintro e w3 ⟨rfl, hb⟩
    have K3 := Aside0.mk (H.out.below hb)
    have L3 : Aside0 (Keep5 W w3 p mo mc so sc) := ⟨Keep5.below hb⟩
    clear hb u2 u3 u4 u5 u6 u7 u8 u9 u10 z7 z8 z9 z10
    obtain ⟨u2, u3, u4, u5, u6, u7, u8, u9, u10, z7, z8, z9, z10⟩ := K3.out.cells
    (try dsimp only at u2 u3 u4 u5 u6 u7 u8 u9 u10 z7 z8 z9 z10)
    go_wp2_with fail
    (with_reducible refine (Step_calls so n d S.cs y r2 S.cs S.ws S.ws _ K3.out.os H.out.ok.cs.1 H.out.ok.cs.2 HN.out.1 HN.out.2 H2.out).mono ?_); rintro e w4 hp
    have K4 := Aside0.mk (K3.out.setSo hp H.out.ok.cs)
    have L4 := Aside0.mk (L3.out.trans (Keep5.at_ (p := p) (mo := mo) (mc := mc) (so := so) (sc := sc) hp.2.2.1 (by simp)))
    obtain rfl := hp.1
    clear hp
    go_wp2_with fail
    go_ret
    exact ⟨rfl, K4.out, L4.out⟩
  subst e2
  rw [if_pos rfl] at hs
  simp only [Prod.mk.injEq] at hs
  obtain ⟨rfl, hS'⟩ := hs
  rcases h3 : lookV S.rm S.bm S.km c1 with ⟨t1, o1⟩
  rcases h4 : lookV S.rs S.bs S.ks c2 with ⟨t2, o2⟩
  obtain ⟨l1, h5⟩ : ∃ l1, readV S.lm t1 o1 = l1 := ⟨_, rfl⟩
  obtain ⟨l2, h6⟩ : ∃ l2, readV S.ls t2 o2 = l2 := ⟨_, rfl⟩
  have H3 := Aside0.mk h3
  have H4 := Aside0.mk h4
  have H5 := Aside0.mk h5
  have H6 := Aside0.mk h6
  have L64 : Aside0 (In64 l1 ∧ In64 l2) := ⟨h5 ▸ read_64 h3 H.out.ok.lm, h6 ▸ read_64 h4 H.out.ok.ls⟩
  have HS := Aside0.mk hS'
  clear h1 h2 h3 h4 h5 h6 hS'
  go_enter Try.func25, Try.ntmps25
  go_wp2_with fail
  (with_reducible refine (may_calls mo mc n d S.cm x 0 c1 S.wm w1 _ H.out.om H.out.ok.cm HN.out.1 HN.out.2 H1.out).mono ?_); rintro e w3 ⟨rfl, hb⟩
  have K3 := Aside0.mk (H.out.below hb)
  have L3 : Aside0 (Keep5 W w3 p mo mc so sc) := ⟨Keep5.below hb⟩
  clear hb u2 u3 u4 u5 u6 u7 u8 u9 u10 z7 z8 z9 z10
  obtain ⟨u2, u3, u4, u5, u6, u7, u8, u9, u10, z7, z8, z9, z10⟩ := K3.out.cells
  (try dsimp only at u2 u3 u4 u5 u6 u7 u8 u9 u10 z7 z8 z9 z10)
  go_wp2_with fail
  (with_reducible refine (Step_calls so n d S.cs y 0 c2 S.ws w2 _ K3.out.os H.out.ok.cs.1 H.out.ok.cs.2 HN.out.1 HN.out.2 H2.out).mono ?_); rintro e w4 hp
  have K4 := Aside0.mk (K3.out.setSo hp b2.out)
  have L4 := Aside0.mk (L3.out.trans (Keep5.at_ (p := p) (mo := mo) (mc := mc) (so := so) (sc := sc) hp.2.2.1 (by simp)))
  obtain rfl := hp.1
  clear hp K3 L3 u2 u3 u4 u5 u6 u7 u8 u9 u10 z7 z8 z9 z10
  obtain ⟨u2, u3, u4, u5, u6, u7, u8, u9, u10, z7, z8, z9, z10⟩ := K4.out.cells
  (try dsimp only at u2 u3 u4 u5 u6 u7 u8 u9 u10 z7 z8 z9 z10)
  go_wp2_with fail
  (with_reducible refine (Step_calls mo n d S.cm x 0 c1 S.wm w1 _ K4.out.om H.out.ok.cm.1 H.out.ok.cm.2 HN.out.1 HN.out.2 H1.out).mono ?_); rintro e w5 hp
  have K5 := Aside0.mk (K4.out.setMo hp b1.out)
  have L5 := Aside0.mk (L4.out.trans (Keep5.at_ (p := p) (mo := mo) (mc := mc) (so := so) (sc := sc) hp.2.2.1 (by simp)))
  obtain rfl := hp.1
  clear hp K4 L4 u2 u3 u4 u5 u6 u7 u8 u9 u10 z7 z8 z9 z10
  obtain ⟨u2, u3, u4, u5, u6, u7, u8, u9, u10, z7, z8, z9, z10⟩ := K5.out.cells
  (try dsimp only at u2 u3 u4 u5 u6 u7 u8 u9 u10 z7 z8 z9 z10)
  have kb : KeepBut w5 (w5.setCell ⟨p, 7, none⟩ (.int .i64 (wrap64 (S.bits + 1)))) p none := KeepBut.set_ (KeepBut.refl _ _ _) 7 _
  have K6 := Aside0.mk (K5.out.setP kb (fun B h1 h2 => (belB (Below.refl _ _) h2).setCell (p := ⟨p, 7, none⟩) h1 _) (b' := wrap64 (S.bits + 1)) (vn' := vn) (va' := va) (f' := S.follows) (blk_put K5.out.pr 7 _ rfl) (K5.out.notesP kb).1 (K5.out.notesP kb).2)
  have L6 := Aside0.mk (L5.out.trans (Keep5.at_ (p := p) (mo := mo) (mc := mc) (so := so) (sc := sc) kb (by simp)))
  clear kb K5 L5
  go_wp2_with fail
  (with_reducible refine (read_calls mo mc n d c1 S.rm S.bm S.km S.lm t1 l1 w1 o1 _ K6.out.om K6.out.tm H.out.ok.rm H.out.ok.bm H.out.ok.km (in64_of b1.out) H3.out H5.out).mono ?_); rintro e w7 hp
  have K7 := Aside0.mk (K6.out.setMc hp L64.out.1)
  have L7 := Aside0.mk (L6.out.trans (Keep5.at_ (p := p) (mo := mo) (mc := mc) (so := so) (sc := sc) hp.2.2.1 (by simp)))
  obtain rfl := hp.1
  clear hp K6 L6 u2 u3 u4 u5 u6 u7 u8 u9 u10 z7 z8 z9 z10
  obtain ⟨u2, u3, u4, u5, u6, u7, u8, u9, u10, z7, z8, z9, z10⟩ := K7.out.cells
  (try dsimp only at u2 u3 u4 u5 u6 u7 u8 u9 u10 z7 z8 z9 z10)
  go_wp2_with fail
  (with_reducible refine (read_calls so sc n d c2 S.rs S.bs S.ks S.ls t2 l2 w2 o2 _ K7.out.os K7.out.ts H.out.ok.rs H.out.ok.bs H.out.ok.ks (in64_of b2.out) H4.out H6.out).mono ?_); rintro e w8 hp
  have K8 := Aside0.mk (K7.out.setSc hp H.out.ok.rs H.out.ok.bs H.out.ok.ks L64.out.2)
  have L8 := Aside0.mk (L7.out.trans (Keep5.at_ (p := p) (mo := mo) (mc := mc) (so := so) (sc := sc) hp.2.2.1 (by simp)))
  obtain rfl := hp.1
  clear hp K7 L7 u2 u3 u4 u5 u6 u7 u8 u9 u10 z7 z8 z9 z10
  obtain ⟨u2, u3, u4, u5, u6, u7, u8, u9, u10, z7, z8, z9, z10⟩ := K8.out.cells
  (try dsimp only at u2 u3 u4 u5 u6 u7 u8 u9 u10 z7 z8 z9 z10)
  go_wp2_with fail
  (with_reducible refine (has_calls so sc n d c2 S.rs S.bs S.ks l2 t2 w2 o2 _ K8.out.os K8.out.ts H.out.ok.rs H.out.ok.bs H.out.ok.ks (in64_of b2.out) H4.out).mono ?_); rintro e w9 ⟨rfl, hb⟩
  have K9 := Aside0.mk (K8.out.below hb)
  have L9 := Aside0.mk (L8.out.trans (Keep5.below hb))
  clear hb K8 L8 u2 u3 u4 u5 u6 u7 u8 u9 u10 z7 z8 z9 z10
  have NA : NoteIs w w9 va S.applied := K9.out.na
  cases ha : S.applied with
  | none =>
    rw [ha] at NA
    obtain rfl : va = .pointer none := NA
    obtain ⟨u2, u3, u4, u5, u6, u7, u8, u9, u10, z7, z8, z9, z10⟩ := K9.out.cells
    (try dsimp only at u2 u3 u4 u5 u6 u7 u8 u9 u10 z7 z8 z9 z10)
    have EQ := Aside0.mk (AS.next_eq S (w1 := w1) (w2 := w2) H3.out H5.out H4.out H6.out (f := S.follows) (by rw [ha]; simp))
    clear ha
    go_wp2_with fail
    go_ret
    exact ⟨rfl, (K9.out.eta (EQ.out.symm.trans HS.out)), L9.out⟩
  | some q =>
    rw [ha] at NA
    obtain ⟨qa, qb, qc⟩ := q
    obtain ⟨gq, rfl, _, _⟩ := NA
    obtain ⟨u2, u3, u4, u5, u6, u7, u8, u9, u10, z7, z8, z9, z10⟩ := K9.out.cells
    (try dsimp only at u2 u3 u4 u5 u6 u7 u8 u9 u10 z7 z8 z9 z10)
    have on : (S.follows || (S.applied.isSome && o2 && (t2 == l2))) = (S.follows || (o2 && (t2 == l2))) := by rw [ha]; simp
    have kb : KeepBut w9 (w9.setCell ⟨p, 10, none⟩ (.bool true)) p none := KeepBut.set_ (KeepBut.refl _ _ _) 10 _
    have K10 := Aside0.mk (K9.out.setP kb (fun B h1 h2 => (belB (Below.refl _ _) h2).setCell (p := ⟨p, 10, none⟩) h1 _) (b' := wrap64 (S.bits + 1)) (vn' := vn) (f' := true) (blk_put K9.out.pr 10 _ rfl) (K9.out.notesP kb).1 (K9.out.notesP kb).2)
    have L10 := Aside0.mk (L9.out.trans (Keep5.at_ (p := p) (mo := mo) (mc := mc) (so := so) (sc := sc) kb (by simp)))
    clear kb ha
    cases o2 with
    | false =>
      have EQ := Aside0.mk (AS.next_eq S (w1 := w1) (w2 := w2) H3.out H5.out H4.out H6.out (f := S.follows) (by rw [on]; simp))
      clear on
      go_wp2_with fail
      go_ret
      exact ⟨rfl, (K9.out.eta (EQ.out.symm.trans HS.out)), L9.out⟩
    | true =>
      cases he : (t2 == l2) with
      | false =>
        have EQ := Aside0.mk (AS.next_eq S (w1 := w1) (w2 := w2) H3.out H5.out H4.out H6.out (f := S.follows) (by rw [on, he]; simp))
        clear on
        go_wp2_with fail
        go_ret
        exact ⟨rfl, (K9.out.eta (EQ.out.symm.trans HS.out)), L9.out⟩
      | true =>
        have EQ := Aside0.mk (AS.next_eq S (w1 := w1) (w2 := w2) H3.out H5.out H4.out H6.out (f := true) (by rw [on, he]; simp))
        clear on
        go_wp2_with fail
        go_ret
        exact ⟨rfl, (K10.out.eta (EQ.out.symm.trans HS.out)), L10.out⟩
end Go.Proofs.Ytgnkmpgnlpjglaa.P
