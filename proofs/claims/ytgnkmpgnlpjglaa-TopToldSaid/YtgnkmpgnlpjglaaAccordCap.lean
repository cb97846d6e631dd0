/- A pair's methods, walked by hand: both are noted, what was noted is applied, and what is told. Conditions: each lemma names them. -/
import Derived.Test.YtgnkmpgnlpjglaaAccordStep
namespace Go.Proofs.Ytgnkmpgnlpjglaa.P
open Go.RowKit Go.Proofs.YtgnkmpgnlpjglaaW.PrintWords Go.Proofs.YtgnkmpgnlpjglaaW.PrintLast Go.Proofs.YtgnkmpgnlpjglaaW.PrintMore
set_option linter.unusedVariables false
set_option linter.unusedSimpArgs false
theorem wrap_same (x : Int) : IntKind.i64.wrap x = wrap64 x := by rw [IntKind.wrap_i64]; unfold wrap64; omega
theorem wrap_in (x : Int) : In64 (wrap64 x) := wrap64_range x
set_option maxHeartbeats 8000000 in
set_option maxRecDepth 100000 in
theorem PCapture (w W : World) (p mo mc so sc : Nat) (n d tu : Int) (S : AS) (vn va : Value) (r : Bool) (S' : AS) (h : PA w W p mo mc so sc n d tu S vn va) (hs : capS S = (r, S')) :
    Calls Try.prog 28 #[.pointer (some ⟨p, 0, none⟩)] W fun e W' => e = .returned (.bool r) ∧ ∃ vn', PA w W' p mo mc so sc n d tu S' vn' va ∧ Keep5 W W' p mo mc so sc := by
  have H := Aside0.mk h
  clear h
  rcases h1 : lookV S.rm S.bm S.km S.cm with ⟨t1, o1⟩
  rcases h2 : lookV S.rs S.bs S.ks S.cs with ⟨t2, o2⟩
  have H1 := Aside0.mk h1
  have H2 := Aside0.mk h2
  unfold capS at hs
  rw [h1, h2] at hs
  simp only [] at hs
  have HS := Aside0.mk hs
  clear h1 h2 hs
  have hu66 := Try.underlying104
  have hu70 := Try.underlying108
  have hu77 := Try.underlying120
  obtain ⟨u2, u3, u4, u5, u6, u7, u8, u9, u10, z7, z8, z9, z10⟩ := H.out.cells
  (try dsimp only at u2 u3 u4 u5 u6 u7 u8 u9 u10 z7 z8 z9 z10)
  go_enter Try.func28, Try.ntmps28
  go_wp2_with fail
  (with_reducible refine (has_calls mo mc n d S.cm S.rm S.bm S.km S.lm t1 S.wm o1 _ H.out.om H.out.tm H.out.ok.rm H.out.ok.bm H.out.ok.km (in64_of H.out.ok.cm) H1.out).mono ?_); rintro e w3 ⟨rfl, hb⟩
  have K3 := Aside0.mk (H.out.below hb)
  have L3 : Aside0 (Keep5 W w3 p mo mc so sc) := ⟨Keep5.below hb⟩
  clear hb u2 u3 u4 u5 u6 u7 u8 u9 u10 z7 z8 z9 z10
  obtain ⟨u2, u3, u4, u5, u6, u7, u8, u9, u10, z7, z8, z9, z10⟩ := K3.out.cells
  (try dsimp only at u2 u3 u4 u5 u6 u7 u8 u9 u10 z7 z8 z9 z10)
  go_wp2_with fail
  (with_reducible refine (has_calls so sc n d S.cs S.rs S.bs S.ks S.ls t2 S.ws o2 _ K3.out.os K3.out.ts H.out.ok.rs H.out.ok.bs H.out.ok.ks (in64_of H.out.ok.cs) H2.out).mono ?_); rintro e w4 ⟨rfl, hb⟩
  have K4 := Aside0.mk (K3.out.below hb)
  have L4 := Aside0.mk (L3.out.trans (Keep5.below hb))
  clear hb K3 L3 u2 u3 u4 u5 u6 u7 u8 u9 u10 z7 z8 z9 z10
  obtain ⟨u2, u3, u4, u5, u6, u7, u8, u9, u10, z7, z8, z9, z10⟩ := K4.out.cells
  (try dsimp only at u2 u3 u4 u5 u6 u7 u8 u9 u10 z7 z8 z9 z10)
  have KA := Aside0.mk (K4.out.alloc (.cells #[.int .i64 t1, .int .i64 t2, .int .i64 S.bits] 120))
  have LA : Aside0 (Keep5 W (w4.alloc (.cells #[.int .i64 t1, .int .i64 t2, .int .i64 S.bits] 120)) p mo mc so sc) := ⟨L4.out.trans (Keep5.below (below_alloc (Below.refl _ _) _))⟩
  have kb : KeepBut (w4.alloc (.cells #[.int .i64 t1, .int .i64 t2, .int .i64 S.bits] 120)) ((w4.alloc (.cells #[.int .i64 t1, .int .i64 t2, .int .i64 S.bits] 120)).setCell ⟨p, 8, none⟩ (.pointer (some ⟨w4.heap.size, 0, none⟩))) p none := KeepBut.set_ (KeepBut.refl _ _ _) 8 _
  have HNT : NoteIs w ((w4.alloc (.cells #[.int .i64 t1, .int .i64 t2, .int .i64 S.bits] 120)).setCell ⟨p, 8, none⟩ (.pointer (some ⟨w4.heap.size, 0, none⟩))) (.pointer (some ⟨w4.heap.size, 0, none⟩)) (some (t1, t2, S.bits)) :=
    ⟨w4.heap.size, rfl, blk_far (blk_new _ _) (by have := blk_lt K4.out.pr; show w4.heap.size ≠ p; omega) _, K4.out.B.size⟩
  have K5 := Aside0.mk (KA.out.setP kb (fun B h1 h2 => (belB (Below.refl _ _) h2).setCell (p := ⟨p, 8, none⟩) h1 _) (b' := S.bits) (f' := S.follows) (blk_put KA.out.pr 8 _ rfl) HNT (KA.out.notesP kb).2)
  have L5 := Aside0.mk (LA.out.trans (Keep5.at_ (p := p) (mo := mo) (mc := mc) (so := so) (sc := sc) kb (by simp)))
  clear kb HNT LA
  have y8 := KA.out.cells.2.2.2.2.2.2.2.2.2.2.1
  have y8c := KA.out.cells.2.2.2.2.2.2.1
  cases o1 with
  | false =>
    have e := HS.out
    simp only [Bool.false_and, Bool.false_eq_true, if_false, Prod.mk.injEq] at e
    obtain ⟨rfl, rfl⟩ := e
    go_wp2_with fail
    go_ret
    exact ⟨rfl, vn, K4.out, L4.out⟩
  | true =>
    cases o2 with
    | false =>
      have e := HS.out
      simp only [Bool.and_false, Bool.false_eq_true, if_false, Prod.mk.injEq] at e
      obtain ⟨rfl, rfl⟩ := e
      go_wp2_with fail
      go_ret
      exact ⟨rfl, vn, K4.out, L4.out⟩
    | true =>
      have e := HS.out
      simp only [Bool.and_true, if_true, Prod.mk.injEq] at e
      obtain ⟨rfl, rfl⟩ := e
      go_wp2_with fail
      go_ret
      first | exact ⟨rfl, _, K5.out.eta rfl, L5.out⟩ | exact ⟨rfl, ⟨_, K5.out.eta rfl⟩, L5.out⟩
theorem tune_fail {r b k c k' e r1 b1 k1 : Int} (h : tuneV r b k c k' = (e, r1, b1, k1)) (he : e ≠ 0) : r1 = r ∧ b1 = b ∧ k1 = k := by
  unfold tuneV onV at h
  split at h
  · split at h
    · simp only [Prod.mk.injEq] at h; exact absurd h.1.symm he
    · simp only [Prod.mk.injEq] at h; exact ⟨h.2.1.symm, h.2.2.1.symm, h.2.2.2.symm⟩
  · simp only [Prod.mk.injEq] at h; exact ⟨h.2.1.symm, h.2.2.1.symm, h.2.2.2.symm⟩
set_option maxHeartbeats 8000000 in
set_option maxRecDepth 100000 in
theorem PApply (w W : World) (p mo mc so sc : Nat) (n d tu : Int) (S : AS) (vn va : Value) (rate r : Int) (S' : AS) (h : PA w W p mo mc so sc n d tu S vn va) (t0 : 0 ≤ tu) (t1 : tu ≤ 4096) (hs : appS tu S rate = (r, S')) :
    Calls Try.prog 31 #[.pointer (some ⟨p, 0, none⟩), .int .i64 rate] W fun e W' => e = .returned (.int .i64 r) ∧ ∃ vn' va', PA w W' p mo mc so sc n d tu S' vn' va' ∧ Keep5 W W' p mo mc so sc := by
  have H := Aside0.mk h
  clear h
  have hu25 := Try.underlying52
  have hu66 := Try.underlying104
  have hu70 := Try.underlying108
  have hu77 := Try.underlying120
  have s1 : wrap64 (1048576 - tu) = 1048576 - tu := wr64 _ (by omega) (by omega)
  have s2 : wrap64 (1048576 + tu) = 1048576 + tu := wr64 _ (by omega) (by omega)
  have s3 : IntKind.i64.wrap (1048576 - tu) = 1048576 - tu := by rw [wrap_same]; exact s1
  have s4 : IntKind.i64.wrap (1048576 + tu) = 1048576 + tu := by rw [wrap_same]; exact s2
  unfold appS at hs
  have NN : NoteIs w W vn S.noted := H.out.nn
  cases hn : S.noted with
  | none =>
    rw [hn] at hs NN
    simp only [Prod.mk.injEq] at hs
    obtain ⟨rfl, rfl⟩ := hs
    obtain rfl : vn = .pointer none := NN
    obtain ⟨u2, u3, u4, u5, u6, u7, u8, u9, u10, z7, z8, z9, z10⟩ := H.out.cells
    (try dsimp only at u2 u3 u4 u5 u6 u7 u8 u9 u10 z7 z8 z9 z10)
    clear hn t0 t1
    go_enter Try.func31, Try.ntmps31
    go_wp2_with fail
    go_ret
    exact ⟨rfl, _, _, H.out, Keep5.below (Below.refl _ _)⟩
  | some q =>
    obtain ⟨m, s, b⟩ := q
    rw [hn] at hs NN
    obtain ⟨g, rfl, hg, hgB⟩ := NN
    have HG := Aside0.mk hg
    have HNO := Aside0.mk hn
    clear hn hg
    simp only [] at hs
    obtain ⟨u2, u3, u4, u5, u6, u7, u8, u9, u10, z7, z8, z9, z10⟩ := H.out.cells
    (try dsimp only at u2 u3 u4 u5 u6 u7 u8 u9 u10 z7 z8 z9 z10)
    by_cases c1 : 1048576 - tu ≤ rate ∧ rate ≤ 1048576 + tu
    case neg =>
      rw [if_neg c1] at hs
      simp only [Prod.mk.injEq] at hs
      obtain ⟨rfl, rfl⟩ := hs
      obtain ⟨v, hv, hne⟩ : ∃ v, exact_Clamp.f rate (1048576 - tu) (1048576 + tu) = some v ∧ (rate != v) = true := by
        unfold exact_Clamp.f mn
        by_cases q1 : rate < 1048576 - tu
        · exact ⟨_, by rw [if_pos q1], by simp; omega⟩
        · exact ⟨_, by rw [if_neg q1, if_pos (by omega)], by simp; omega⟩
      have HV := Aside0.mk hv
      clear c1 hv t0 t1 hgB
      go_enter Try.func31, Try.ntmps31
      go_wp2_with fail
      go_region_held3 (fun w' => w'.cell? ⟨p, 2, none⟩ = some (.int .i64 tu)) (go_keep)
        (first
          | (go_at_call 37; (with_reducible refine (exact_Clamp.calls rate (1048576 - tu) (1048576 + tu) v _ HV.out).mono ?_); rintro e w3 ⟨rfl, hb⟩; have K3 := Aside0.mk (H.out.drew.below hb); have L3 := Aside0.mk (Keep5.below (p := p) (mo := mo) (mc := mc) (so := so) (sc := sc) (below_step (below_drew1 (Below.refl _ _)) hb)); clear hb u2 u3 u4 u5 u6 u7 u8 u9 u10 z7 z8 z9 z10; obtain ⟨u2, u3, u4, u5, u6, u7, u8, u9, u10, z7, z8, z9, z10⟩ := K3.out.cells))
      go_wp2_with fail
      go_ret
      exact ⟨rfl, _, _, K3.out, L3.out⟩
    rw [if_pos c1] at hs
    have HV : Aside0 (exact_Clamp.f rate (1048576 - tu) (1048576 + tu) = some rate) := ⟨by unfold exact_Clamp.f mn; rw [if_neg (by omega), if_neg (by omega)]⟩
    have hne : (rate != rate) = false := by simp
    rcases h3 : tuneV S.rs S.bs S.ks S.cs rate with ⟨e1, r1, b1, k1⟩
    rw [h3] at hs
    simp only [] at hs
    have H3 := Aside0.mk h3
    have N3 := Aside0.mk (tune_64 h3 H.out.ok.rs H.out.ok.bs H.out.ok.ks (in64_of H.out.ok.cs))
    have HGB := Aside0.mk hgB
    clear c1 t0 t1 hgB
    by_cases e10 : e1 = 0
    case neg =>
      rw [if_neg e10] at hs
      simp only [Prod.mk.injEq] at hs
      obtain ⟨rfl, rfl⟩ := hs
      obtain ⟨rfl, rfl, rfl⟩ := tune_fail h3 e10
      have f1 : (e1 != 0) = true := by rw [bne_iff_ne]; exact e10
      clear h3 e10
      go_enter Try.func31, Try.ntmps31
      go_wp2_with fail
      go_region_held3 (fun w' => w'.cell? ⟨p, 2, none⟩ = some (.int .i64 tu)) (go_keep)
        (first
          | (go_at_call 37; (with_reducible refine (exact_Clamp.calls rate (1048576 - tu) (1048576 + tu) rate _ HV.out).mono ?_); rintro e w3 ⟨rfl, hb⟩; have K3 := Aside0.mk (H.out.drew.below hb); have L3 := Aside0.mk (Keep5.below (p := p) (mo := mo) (mc := mc) (so := so) (sc := sc) (below_step (below_drew1 (Below.refl _ _)) hb)); clear hb u2 u3 u4 u5 u6 u7 u8 u9 u10 z7 z8 z9 z10; obtain ⟨u2, u3, u4, u5, u6, u7, u8, u9, u10, z7, z8, z9, z10⟩ := K3.out.cells))
      go_wp2_with fail
      (with_reducible refine (Count_calls so n d S.cs S.ws _ K3.out.os).mono ?_); rintro e w4 ⟨rfl, rfl⟩
      go_wp2_with fail
      (with_reducible refine (Tune_calls sc S.rs S.bs S.ks S.ls S.cs rate e1 S.rs S.bs S.ks _ K3.out.ts H.out.ok.rs H.out.ok.bs H.out.ok.ks (in64_of H.out.ok.cs) H3.out).mono ?_); rintro e w5 hp
      have K5 := Aside0.mk (K3.out.setSc hp H.out.ok.rs H.out.ok.bs H.out.ok.ks H.out.ok.ls)
      have L5 := Aside0.mk (L3.out.trans (Keep5.at_ (p := p) (mo := mo) (mc := mc) (so := so) (sc := sc) hp.2.2.1 (by simp)))
      obtain rfl := hp.1
      clear hp
      go_wp2_with fail
      go_ret
      exact ⟨rfl, _, _, K5.out.eta rfl, L5.out⟩
    subst e10
    rw [if_pos rfl] at hs
    obtain ⟨z, hz⟩ : ∃ z, wrap64 (m - s) = z := ⟨_, rfl⟩
    have hz2 : IntKind.i64.wrap (m - s) = z := by rw [wrap_same]; exact hz
    have Z64 : Aside0 (In64 z) := ⟨hz ▸ wrap_in _⟩
    rw [hz] at hs
    rcases h4 : onV r1 b1 k1 S.cs z k1 with ⟨e2, r2, b2, k2⟩
    rw [h4] at hs
    simp only [] at hs
    have H4 := Aside0.mk h4
    have N4 := Aside0.mk (on_64 h4 N3.out.1 N3.out.2.1 N3.out.2.2 (in64_of H.out.ok.cs) N3.out.2.2)
    have HS := Aside0.mk hs
    clear h3 h4 hs
    go_enter Try.func31, Try.ntmps31
    go_wp2_with fail
    go_region_held3 (fun w' => w'.cell? ⟨p, 2, none⟩ = some (.int .i64 tu)) (go_keep)
      (first
        | (go_at_call 37; (with_reducible refine (exact_Clamp.calls rate (1048576 - tu) (1048576 + tu) rate _ HV.out).mono ?_); rintro e w3 ⟨rfl, hb⟩; have K3 := Aside0.mk (H.out.drew.below hb); have G3 := Aside0.mk (blk_below (blk_drew HG.out) hb); have L3 := Aside0.mk (Keep5.below (p := p) (mo := mo) (mc := mc) (so := so) (sc := sc) (below_step (below_drew1 (Below.refl _ _)) hb)); clear hb u2 u3 u4 u5 u6 u7 u8 u9 u10 z7 z8 z9 z10; obtain ⟨u2, u3, u4, u5, u6, u7, u8, u9, u10, z7, z8, z9, z10⟩ := K3.out.cells))
    go_wp2_with fail
    (with_reducible refine (Count_calls so n d S.cs S.ws _ K3.out.os).mono ?_); rintro e w4 ⟨rfl, rfl⟩
    go_wp2_with fail
    (with_reducible refine (Tune_calls sc S.rs S.bs S.ks S.ls S.cs rate 0 r1 b1 k1 _ K3.out.ts H.out.ok.rs H.out.ok.bs H.out.ok.ks (in64_of H.out.ok.cs) H3.out).mono ?_); rintro e w5 hp
    have K5 := Aside0.mk (K3.out.setSc hp N3.out.1 N3.out.2.1 N3.out.2.2 H.out.ok.ls)
    have G5 := Aside0.mk (keep_b hp.2.2.1 G3.out (ne_type G3.out K3.out.ts (by decide)))
    have L5 := Aside0.mk (L3.out.trans (Keep5.at_ (p := p) (mo := mo) (mc := mc) (so := so) (sc := sc) hp.2.2.1 (by simp)))
    obtain rfl := hp.1
    clear hp K3 L3 G3 u2 u3 u4 u5 u6 u7 u8 u9 u10 z7 z8 z9 z10
    obtain ⟨u2, u3, u4, u5, u6, u7, u8, u9, u10, z7, z8, z9, z10⟩ := K5.out.cells
    (try dsimp only at u2 u3 u4 u5 u6 u7 u8 u9 u10 z7 z8 z9 z10)
    obtain ⟨g0, g1, g2⟩ := cells3k G5.out
    go_wp2_with fail
    go_region_held3 (fun w' => w'.cell? ⟨p, 6, none⟩ = some (.pointer (some ⟨sc, 0, none⟩)) ∧ w'.cell? ⟨p, 8, none⟩ = some (.pointer (some ⟨g, 0, none⟩)) ∧ w'.cell? ⟨g, 0, none⟩ = some (.int .i64 m) ∧ w'.cell? ⟨g, 1, none⟩ = some (.int .i64 s)) (go_keep)
      (first
        | (go_at_call 55; (with_reducible refine (Shift_calls sc r1 b1 k1 S.ls S.cs z e2 r2 b2 k2 _ K5.out.drew.ts N3.out.1 N3.out.2.1 N3.out.2.2 (in64_of H.out.ok.cs) Z64.out H4.out).mono ?_); rintro e w6 hp; have K6 := Aside0.mk (K5.out.drew.setSc hp N4.out.1 N4.out.2.1 N4.out.2.2 H.out.ok.ls); have G6 := Aside0.mk (keep_b hp.2.2.1 (blk_drew G5.out) (ne_type (blk_drew G5.out) K5.out.drew.ts (by decide))); have L6 := Aside0.mk ((L5.out.trans (Keep5.below (below_drew1 (Below.refl _ _)))).trans (Keep5.at_ (p := p) (mo := mo) (mc := mc) (so := so) (sc := sc) hp.2.2.1 (by simp))); obtain rfl := hp.1; clear hp g0 g1 g2 u2 u3 u4 u5 u6 u7 u8 u9 u10 z7 z8 z9 z10; obtain ⟨u2, u3, u4, u5, u6, u7, u8, u9, u10, z7, z8, z9, z10⟩ := K6.out.cells; obtain ⟨g0, g1, g2⟩ := cells3k G6.out))
    (try dsimp only at u2 u3 u4 u5 u6 u7 u8 u9 u10 z7 z8 z9 z10)
    by_cases e20 : e2 = 0
    · subst e20
      have hs := HS.out
      rw [if_pos rfl] at hs
      simp only [Prod.mk.injEq] at hs
      obtain ⟨rfl, rfl⟩ := hs
      have kb : KeepBut w6 ((w6.setCell ⟨p, 9, none⟩ (.pointer (some ⟨g, 0, none⟩))).setCell ⟨p, 8, none⟩ (.pointer none)) p none := KeepBut.set_ (KeepBut.set_ (KeepBut.refl _ _ _) 9 _) 8 _
      have HNT : NoteIs w ((w6.setCell ⟨p, 9, none⟩ (.pointer (some ⟨g, 0, none⟩))).setCell ⟨p, 8, none⟩ (.pointer none)) (.pointer (some ⟨g, 0, none⟩)) (some (m, s, b)) := ⟨g, rfl, keep_b kb G6.out (ne_type G6.out K6.out.pr (by decide)), HGB.out⟩
      have K7 := Aside0.mk (K6.out.setP kb (fun B h1 h2 => ((belB (Below.refl _ _) h2).setCell (p := ⟨p, 9, none⟩) h1 _).setCell (p := ⟨p, 8, none⟩) h1 _) (b' := S.bits) (f' := S.follows) (no := none) (blk_put (blk_put K6.out.pr 9 _ rfl) 8 _ rfl) rfl HNT)
      have L7 := Aside0.mk (L6.out.trans (Keep5.at_ (p := p) (mo := mo) (mc := mc) (so := so) (sc := sc) kb (by simp)))
      clear kb HNT
      go_wp2_with fail
      go_ret
      first | exact ⟨rfl, _, _, K7.out.eta rfl, L7.out⟩ | exact ⟨rfl, ⟨_, _, K7.out.eta rfl⟩, L7.out⟩
    · have hs := HS.out
      rw [if_neg e20] at hs
      simp only [Prod.mk.injEq] at hs
      obtain ⟨rfl, rfl⟩ := hs
      have f2 : (e2 != 0) = true := by rw [bne_iff_ne]; exact e20
      clear e20
      go_wp2_with fail
      go_ret
      exact ⟨rfl, _, _, K6.out.eta rfl, L6.out⟩
set_option maxHeartbeats 2000000 in
set_option maxRecDepth 100000 in
theorem PMaster (w W : World) (p mo mc so sc : Nat) (n d tu : Int) (S : AS) (vn va : Value) (h : PA w W p mo mc so sc n d tu S vn va) : Calls Try.prog 30 #[.pointer (some ⟨p, 0, none⟩)] W fun e W' => e = .returned (.int .i64 S.lm) ∧ W = W' := by
  have H := Aside0.mk h
  clear h
  have hu66 := Try.underlying104
  have hu70 := Try.underlying108
  obtain ⟨u2, u3, u4, u5, u6, u7, u8, u9, u10, z7, z8, z9, z10⟩ := H.out.cells
  (try dsimp only at u2 u3 u4 u5 u6 u7 u8 u9 u10 z7 z8 z9 z10)
  go_enter Try.func30, Try.ntmps30
  go_wp2_with fail
  (with_reducible refine (Last_calls mc S.rm S.bm S.km S.lm _ H.out.tm).mono ?_); rintro e w3 ⟨rfl, rfl⟩
  go_wp2_with fail
  go_ret
  exact ⟨rfl, rfl⟩
set_option maxHeartbeats 2000000 in
set_option maxRecDepth 100000 in
theorem PSlave (w W : World) (p mo mc so sc : Nat) (n d tu : Int) (S : AS) (vn va : Value) (h : PA w W p mo mc so sc n d tu S vn va) : Calls Try.prog 32 #[.pointer (some ⟨p, 0, none⟩)] W fun e W' => e = .returned (.int .i64 S.ls) ∧ W = W' := by
  have H := Aside0.mk h
  clear h
  have hu66 := Try.underlying104
  have hu70 := Try.underlying108
  obtain ⟨u2, u3, u4, u5, u6, u7, u8, u9, u10, z7, z8, z9, z10⟩ := H.out.cells
  (try dsimp only at u2 u3 u4 u5 u6 u7 u8 u9 u10 z7 z8 z9 z10)
  go_enter Try.func32, Try.ntmps32
  go_wp2_with fail
  (with_reducible refine (Last_calls sc S.rs S.bs S.ks S.ls _ H.out.ts).mono ?_); rintro e w3 ⟨rfl, rfl⟩
  go_wp2_with fail
  go_ret
  exact ⟨rfl, rfl⟩
set_option maxHeartbeats 2000000 in
set_option maxRecDepth 100000 in
theorem PSettled (w W : World) (p mo mc so sc : Nat) (n d tu : Int) (S : AS) (vn va : Value) (h : PA w W p mo mc so sc n d tu S vn va) : Calls Try.prog 35 #[.pointer (some ⟨p, 0, none⟩)] W fun e W' => e = .returned (.bool S.follows) ∧ W = W' := by
  have H := Aside0.mk h
  clear h
  have hu70 := Try.underlying108
  obtain ⟨u2, u3, u4, u5, u6, u7, u8, u9, u10, z7, z8, z9, z10⟩ := H.out.cells
  (try dsimp only at u2 u3 u4 u5 u6 u7 u8 u9 u10 z7 z8 z9 z10)
  go_enter Try.func35, Try.ntmps35
  go_wp2_with fail
  go_ret
  exact ⟨rfl, rfl⟩
set_option maxHeartbeats 2000000 in
set_option maxRecDepth 100000 in
theorem PGap (w W : World) (p mo mc so sc : Nat) (n d tu : Int) (S : AS) (vn va : Value) (h : PA w W p mo mc so sc n d tu S vn va) : Calls Try.prog 34 #[.pointer (some ⟨p, 0, none⟩)] W fun e W' => e = .returned (.int .i64 (gapS S)) ∧ Below W.heap.size W W' := by
  have H := Aside0.mk h
  clear h
  have hu70 := Try.underlying108
  have hu77 := Try.underlying120
  have NA : NoteIs w W va S.applied := H.out.na
  unfold gapS
  cases ha : S.applied with
  | none =>
    rw [ha] at NA
    obtain rfl : va = .pointer none := NA
    obtain ⟨u2, u3, u4, u5, u6, u7, u8, u9, u10, z7, z8, z9, z10⟩ := H.out.cells
    (try dsimp only at u2 u3 u4 u5 u6 u7 u8 u9 u10 z7 z8 z9 z10)
    clear ha
    go_enter Try.func34, Try.ntmps34
    go_wp2_with fail
    go_ret
    exact ⟨rfl, Below.refl _ _⟩
  | some q =>
    obtain ⟨qa, qb, qc⟩ := q
    rw [ha] at NA
    obtain ⟨g, rfl, hg, _⟩ := NA
    obtain ⟨u2, u3, u4, u5, u6, u7, u8, u9, u10, z7, z8, z9, z10⟩ := H.out.cells
    (try dsimp only at u2 u3 u4 u5 u6 u7 u8 u9 u10 z7 z8 z9 z10)
    obtain ⟨g0, g1, g2⟩ := cells3k hg
    obtain ⟨z, hz⟩ : ∃ z, wrap64 (S.bits - qc) = z := ⟨_, rfl⟩
    have hz2 : IntKind.i64.wrap (S.bits - qc) = z := by rw [wrap_same]; exact hz
    show Calls _ _ _ _ fun e W' => e = .returned (.int .i64 (wrap64 (S.bits - qc))) ∧ _
    rw [hz]
    clear ha hg
    go_enter Try.func34, Try.ntmps34
    go_wp2_with fail
    go_quiet (fail)
    go_wp2_with fail
    go_ret
    exact ⟨rfl, pw_below_drewN (Below.refl _ _) _⟩
theorem PStep_nil (x y : Int) (W : World) : Calls Try.prog 25 #[.pointer none, .int .i64 x, .int .i64 y] W fun e W' => e = .returned (.int .i64 7) ∧ W = W' := by
  go_enter Try.func25, Try.ntmps25
  go_wp2
  go_ret
  exact ⟨rfl, rfl⟩
theorem PCapture_nil (W : World) : Calls Try.prog 28 #[.pointer none] W fun e W' => e = .returned (.bool false) ∧ W = W' := by
  go_enter Try.func28, Try.ntmps28
  go_wp2
  go_ret
  exact ⟨rfl, rfl⟩
theorem PMaster_nil (W : World) : Calls Try.prog 30 #[.pointer none] W fun e W' => e = .returned (.int .i64 0) ∧ W = W' := by
  go_enter Try.func30, Try.ntmps30
  go_wp2
  go_ret
  exact ⟨rfl, rfl⟩
theorem PGap_nil (W : World) : Calls Try.prog 34 #[.pointer none] W fun e W' => e = .returned (.int .i64 0) ∧ W = W' := by
  go_enter Try.func34, Try.ntmps34
  go_wp2
  go_ret
  exact ⟨rfl, rfl⟩
end Go.Proofs.Ytgnkmpgnlpjglaa.P
