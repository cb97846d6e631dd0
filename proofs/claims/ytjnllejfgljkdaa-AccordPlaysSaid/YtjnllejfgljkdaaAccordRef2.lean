/- The reference's pair, walked by hand: both are noted, what was noted is applied, how long ago that was, and a new pair. Conditions: each lemma names them. -/
import Derived.Test.YtjnllejfgljkdaaAccordRef
namespace Go.Proofs.Ytjnllejfgljkdaa.P
open Go.RowKit Go.Proofs.YtjnllejfgljkdaaW.PrintWords Go.Proofs.YtjnllejfgljkdaaW.PrintLast Go.Proofs.YtjnllejfgljkdaaW.PrintMore
set_option linter.unusedVariables false
set_option linter.unusedSimpArgs false
/-- A pair of the reference, whatever its cells that count for nothing hold. -/
def PREx (w W : World) (p mo mc so sc : Nat) (n d tu : Int) (S : AS) : Prop := ∃ nb mi it at_ ab si, PR w W p mo mc so sc n d tu S nb mi it at_ ab si
set_option maxHeartbeats 8000000 in
set_option maxRecDepth 100000 in
theorem RCapture (w W : World) (p mo mc so sc : Nat) (n d tu : Int) (S : AS) (nb : Bool) (mi it at_ : Int) (ab : Bool) (si : Int) (r : Bool) (S' : AS) (h : PR w W p mo mc so sc n d tu S nb mi it at_ ab si) (hs : capS S = (r, S')) :
    Calls Try.prog 18 #[.pointer (some ⟨p, 0, none⟩)] W fun e W' => e = .returned (.bool r) ∧ PREx w W' p mo mc so sc n d tu S' ∧ Keep5 W W' p mo mc so sc := by
  have H := Aside0.mk h
  clear h
  rcases h1 : lookV S.rm S.bm S.km S.cm with ⟨t1, o1⟩
  rcases h2 : lookV S.rs S.bs S.ks S.cs with ⟨t2, o2⟩
  have H1 := Aside0.mk h1
  have H2 := Aside0.mk h2
  unfold capS at hs
  rw [h1, h2] at hs
  simp only [] at hs
  have HS := Aside0.mk hs
  clear h1 h2 hs
  have hu55 := Try.underlying55
  have hu79 := Try.underlying79
  obtain ⟨⟨u2, u3, u4, u5, u6, u7, u8, u9, u10, u11, u12, u13, u14⟩, ⟨z7, z8, z9, z10, z11, z12, z13, z14⟩, y1, y2⟩ := H.out.cells
  (try dsimp only at u2 u3 u4 u5 u6 u7 u8 u9 u10 u11 u12 u13 u14 z7 z8 z9 z10 z11 z12 z13 z14 y1 y2)
  go_enter Try.func18, Try.ntmps18
  go_wp2_with fail
  go_region_held3 (fun w' => w'.cell? ⟨p, 5, none⟩ = some (.pointer (some ⟨mc, 0, none⟩)) ∧ w'.cell? ⟨p, 3, none⟩ = some (.pointer (some ⟨mo, 0, none⟩)) ∧ w'.cell? ⟨mo, 2, none⟩ = some (.int .i64 S.cm)) (go_keep)
    (first
      | (go_at_call 47; (with_reducible refine (RefLook_calls mc S.rm S.bm S.km S.lm S.cm t1 o1 _ H.out.drew.tm H.out.ok.rm H.out.ok.bm H.out.ok.km (in64_of H.out.ok.cm) H1.out).mono ?_); rintro e w3 ⟨rfl, hb⟩; have K3 := Aside0.mk (H.out.drew.below hb); have L3 := Aside0.mk (Keep5.below (p := p) (mo := mo) (mc := mc) (so := so) (sc := sc) (below_step (below_drew1 (Below.refl _ _)) hb)); clear hb u2 u3 u4 u5 u6 u7 u8 u9 u10 u11 u12 u13 u14 z7 z8 z9 z10 z11 z12 z13 z14 y1 y2; obtain ⟨⟨u2, u3, u4, u5, u6, u7, u8, u9, u10, u11, u12, u13, u14⟩, ⟨z7, z8, z9, z10, z11, z12, z13, z14⟩, y1, y2⟩ := K3.out.cells))
  (try dsimp only at u2 u3 u4 u5 u6 u7 u8 u9 u10 u11 u12 u13 u14 z7 z8 z9 z10 z11 z12 z13 z14 y1 y2)
  go_wp2_with fail
  go_region_held3 (fun w' => w'.cell? ⟨p, 6, none⟩ = some (.pointer (some ⟨sc, 0, none⟩)) ∧ w'.cell? ⟨p, 4, none⟩ = some (.pointer (some ⟨so, 0, none⟩)) ∧ w'.cell? ⟨so, 2, none⟩ = some (.int .i64 S.cs)) (go_keep)
    (first
      | (go_at_call 47; (with_reducible refine (RefLook_calls sc S.rs S.bs S.ks S.ls S.cs t2 o2 _ K3.out.drew.ts H.out.ok.rs H.out.ok.bs H.out.ok.ks (in64_of H.out.ok.cs) H2.out).mono ?_); rintro e w4 ⟨rfl, hb⟩; have K4 := Aside0.mk (K3.out.drew.below hb); have L4 := Aside0.mk ((L3.out.trans (Keep5.below (below_drew1 (Below.refl _ _)))).trans (Keep5.below hb)); clear hb u2 u3 u4 u5 u6 u7 u8 u9 u10 u11 u12 u13 u14 z7 z8 z9 z10 z11 z12 z13 z14 y1 y2; obtain ⟨⟨u2, u3, u4, u5, u6, u7, u8, u9, u10, u11, u12, u13, u14⟩, ⟨z7, z8, z9, z10, z11, z12, z13, z14⟩, y1, y2⟩ := K4.out.cells))
  (try dsimp only at u2 u3 u4 u5 u6 u7 u8 u9 u10 u11 u12 u13 u14 z7 z8 z9 z10 z11 z12 z13 z14 y1 y2)
  have kb : KeepBut w4 ((((w4.setCell ⟨p, 8, none⟩ (.bool true)).setCell ⟨p, 10, none⟩ (.int .i64 t1)).setCell ⟨p, 9, none⟩ (.int .i64 t2)).setCell ⟨p, 11, none⟩ (.int .i64 S.bits)) p none := KeepBut.set_ (KeepBut.set_ (KeepBut.set_ (KeepBut.set_ (KeepBut.refl _ _ _) 8 _) 10 _) 9 _) 11 _
  have K5 := Aside0.mk (K4.out.setP kb (fun B h1 h2 => ((((belB (Below.refl _ _) h2).setCell (p := ⟨p, 8, none⟩) h1 _).setCell (p := ⟨p, 10, none⟩) h1 _).setCell (p := ⟨p, 9, none⟩) h1 _).setCell (p := ⟨p, 11, none⟩) h1 _) (b' := S.bits) (f' := S.follows) (no := some (t1, t2, S.bits)) (blk_put (blk_put (blk_put (blk_put K4.out.pr 8 _ rfl) 10 _ rfl) 9 _ rfl) 11 _ rfl) ⟨rfl, rfl, rfl, rfl⟩ K4.out.na)
  have L5 := Aside0.mk (L4.out.trans (Keep5.at_ (p := p) (mo := mo) (mc := mc) (so := so) (sc := sc) kb (by simp)))
  clear kb
  cases o1 with
  | false =>
    have e := HS.out
    simp only [Bool.false_and, Bool.false_eq_true, if_false, Prod.mk.injEq] at e
    obtain ⟨rfl, rfl⟩ := e
    go_wp2_with fail
    go_ret
    exact ⟨rfl, ⟨_, _, _, _, _, _, K4.out⟩, L4.out⟩
  | true =>
    cases o2 with
    | false =>
      have e := HS.out
      simp only [Bool.and_false, Bool.false_eq_true, if_false, Prod.mk.injEq] at e
      obtain ⟨rfl, rfl⟩ := e
      go_wp2_with fail
      go_ret
      exact ⟨rfl, ⟨_, _, _, _, _, _, K4.out⟩, L4.out⟩
    | true =>
      have e := HS.out
      simp only [Bool.and_true, if_true, Prod.mk.injEq] at e
      obtain ⟨rfl, rfl⟩ := e
      go_wp2_with fail
      go_ret
      exact ⟨rfl, ⟨_, _, _, _, _, _, K5.out.eta rfl⟩, L5.out⟩
set_option maxHeartbeats 8000000 in
set_option maxRecDepth 100000 in
theorem RApply (w W : World) (p mo mc so sc : Nat) (n d tu : Int) (S : AS) (nb : Bool) (mi it at_ : Int) (ab : Bool) (si : Int) (rate r : Int) (S' : AS) (h : PR w W p mo mc so sc n d tu S nb mi it at_ ab si) (t0 : 0 ≤ tu) (t1 : tu ≤ 4096) (hs : appS tu S rate = (r, S')) :
    Calls Try.prog 20 #[.pointer (some ⟨p, 0, none⟩), .int .i64 rate] W fun e W' => e = .returned (.int .i64 r) ∧ PREx w W' p mo mc so sc n d tu S' ∧ Keep5 W W' p mo mc so sc := by
  have H := Aside0.mk h
  clear h
  have hu29 := Try.underlying29
  have hu55 := Try.underlying55
  have hu79 := Try.underlying79
  have s1 : wrap64 (1048576 - tu) = 1048576 - tu := wr64 _ (by omega) (by omega)
  have s2 : wrap64 (1048576 + tu) = 1048576 + tu := wr64 _ (by omega) (by omega)
  unfold appS at hs
  have NN : NotedIs S.noted nb mi it at_ := H.out.nn
  obtain ⟨⟨u2, u3, u4, u5, u6, u7, u8, u9, u10, u11, u12, u13, u14⟩, ⟨z7, z8, z9, z10, z11, z12, z13, z14⟩, y1, y2⟩ := H.out.cells
  (try dsimp only at u2 u3 u4 u5 u6 u7 u8 u9 u10 u11 u12 u13 u14 z7 z8 z9 z10 z11 z12 z13 z14 y1 y2)
  cases hn : S.noted with
  | none =>
    rw [hn] at hs NN
    simp only [Prod.mk.injEq] at hs
    obtain ⟨rfl, rfl⟩ := hs
    obtain rfl : nb = false := NN
    clear hn t0 t1
    go_enter Try.func20, Try.ntmps20
    go_wp2_with fail
    go_ret
    exact ⟨rfl, ⟨_, _, _, _, _, _, H.out⟩, Keep5.below (Below.refl _ _)⟩
  | some q =>
    obtain ⟨m, s, b⟩ := q
    rw [hn] at hs NN
    obtain ⟨rfl, rfl, rfl, rfl⟩ := NN
    simp only [] at hs
    clear hn
    by_cases c0 : rate < 1048576 - tu
    · have v0 : decide (rate < 1048576 - tu) = true := decide_eq_true c0
      rw [if_neg (by omega)] at hs
      simp only [Prod.mk.injEq] at hs
      obtain ⟨rfl, rfl⟩ := hs
      clear c0 t0 t1
      go_enter Try.func20, Try.ntmps20
      go_wp2_with fail
      go_ret
      exact ⟨rfl, ⟨_, _, _, _, _, _, H.out⟩, Keep5.below (Below.refl _ _)⟩
    have v0 : decide (rate < 1048576 - tu) = false := decide_eq_false c0
    by_cases c1 : 1048576 + tu < rate
    · have v1 : decide (1048576 + tu < rate) = true := decide_eq_true c1
      rw [if_neg (by omega)] at hs
      simp only [Prod.mk.injEq] at hs
      obtain ⟨rfl, rfl⟩ := hs
      clear c0 c1 t0 t1
      go_enter Try.func20, Try.ntmps20
      go_wp2_with fail
      go_ret
      exact ⟨rfl, ⟨_, _, _, _, _, _, H.out⟩, Keep5.below (Below.refl _ _)⟩
    have v1 : decide (1048576 + tu < rate) = false := decide_eq_false c1
    rw [if_pos (by omega)] at hs
    rcases h3 : tuneV S.rs S.bs S.ks S.cs rate with ⟨e1, r1, b1, k1⟩
    rw [h3] at hs
    simp only [] at hs
    have H3 := Aside0.mk h3
    have N3 := Aside0.mk (tune_64 h3 H.out.ok.rs H.out.ok.bs H.out.ok.ks (in64_of H.out.ok.cs))
    clear c0 c1 t0 t1
    by_cases e10 : e1 = 0
    case neg =>
      rw [if_neg e10] at hs
      simp only [Prod.mk.injEq] at hs
      obtain ⟨rfl, rfl⟩ := hs
      obtain ⟨rfl, rfl, rfl⟩ := tune_fail h3 e10
      have f1 : (e1 != 0) = true := by rw [bne_iff_ne]; exact e10
      clear h3 e10
      go_enter Try.func20, Try.ntmps20
      go_wp2_with fail
      go_region_held3 (fun w' => w'.cell? ⟨p, 6, none⟩ = some (.pointer (some ⟨sc, 0, none⟩)) ∧ w'.cell? ⟨p, 4, none⟩ = some (.pointer (some ⟨so, 0, none⟩)) ∧ w'.cell? ⟨so, 2, none⟩ = some (.int .i64 S.cs)) (go_keep)
        (first
          | (go_at_call 51; (with_reducible refine (RefTune_calls sc S.rs S.bs S.ks S.ls S.cs rate e1 S.rs S.bs S.ks _ H.out.drew.ts H.out.ok.rs H.out.ok.bs H.out.ok.ks (in64_of H.out.ok.cs) H3.out).mono ?_); rintro e w5 hp; have K5 := Aside0.mk (H.out.drew.setSc hp H.out.ok.rs H.out.ok.bs H.out.ok.ks H.out.ok.ls); have L5 := Aside0.mk ((Keep5.below (below_drew1 (Below.refl _ _))).trans (Keep5.at_ (p := p) (mo := mo) (mc := mc) (so := so) (sc := sc) hp.2.2.1 (by simp))); obtain rfl := hp.1; clear hp u2 u3 u4 u5 u6 u7 u8 u9 u10 u11 u12 u13 u14 z7 z8 z9 z10 z11 z12 z13 z14 y1 y2; obtain ⟨⟨u2, u3, u4, u5, u6, u7, u8, u9, u10, u11, u12, u13, u14⟩, ⟨z7, z8, z9, z10, z11, z12, z13, z14⟩, y1, y2⟩ := K5.out.cells))
      (try dsimp only at u2 u3 u4 u5 u6 u7 u8 u9 u10 u11 u12 u13 u14 z7 z8 z9 z10 z11 z12 z13 z14 y1 y2)
      go_wp2_with fail
      go_ret
      exact ⟨rfl, ⟨_, _, _, _, _, _, K5.out.eta rfl⟩, L5.out⟩
    subst e10
    rw [if_pos rfl] at hs
    obtain ⟨z, hz⟩ : ∃ z, wrap64 (it - mi) = z := ⟨_, rfl⟩
    have hz2 : IntKind.i64.wrap (it - mi) = z := by rw [wrap_same]; exact hz
    have Z64 : Aside0 (In64 z) := ⟨hz ▸ wrap_in _⟩
    rw [hz] at hs
    rcases h4 : onV r1 b1 k1 S.cs z k1 with ⟨e2, r2, b2, k2⟩
    rw [h4] at hs
    simp only [] at hs
    have H4 := Aside0.mk h4
    have N4 := Aside0.mk (on_64 h4 N3.out.1 N3.out.2.1 N3.out.2.2 (in64_of H.out.ok.cs) N3.out.2.2)
    have HS := Aside0.mk hs
    clear h3 h4 hs
    go_enter Try.func20, Try.ntmps20
    go_wp2_with fail
    go_region_held3 (fun w' => w'.cell? ⟨p, 6, none⟩ = some (.pointer (some ⟨sc, 0, none⟩)) ∧ w'.cell? ⟨p, 4, none⟩ = some (.pointer (some ⟨so, 0, none⟩)) ∧ w'.cell? ⟨so, 2, none⟩ = some (.int .i64 S.cs)) (go_keep)
      (first
        | (go_at_call 51; (with_reducible refine (RefTune_calls sc S.rs S.bs S.ks S.ls S.cs rate 0 r1 b1 k1 _ H.out.drew.ts H.out.ok.rs H.out.ok.bs H.out.ok.ks (in64_of H.out.ok.cs) H3.out).mono ?_); rintro e w5 hp; have K5 := Aside0.mk (H.out.drew.setSc hp N3.out.1 N3.out.2.1 N3.out.2.2 H.out.ok.ls); have L5 := Aside0.mk ((Keep5.below (below_drew1 (Below.refl _ _))).trans (Keep5.at_ (p := p) (mo := mo) (mc := mc) (so := so) (sc := sc) hp.2.2.1 (by simp))); obtain rfl := hp.1; clear hp u2 u3 u4 u5 u6 u7 u8 u9 u10 u11 u12 u13 u14 z7 z8 z9 z10 z11 z12 z13 z14 y1 y2; obtain ⟨⟨u2, u3, u4, u5, u6, u7, u8, u9, u10, u11, u12, u13, u14⟩, ⟨z7, z8, z9, z10, z11, z12, z13, z14⟩, y1, y2⟩ := K5.out.cells))
    (try dsimp only at u2 u3 u4 u5 u6 u7 u8 u9 u10 u11 u12 u13 u14 z7 z8 z9 z10 z11 z12 z13 z14 y1 y2)
    go_wp2_with fail
    go_region_held3 (fun w' => w'.cell? ⟨p, 6, none⟩ = some (.pointer (some ⟨sc, 0, none⟩)) ∧ w'.cell? ⟨p, 4, none⟩ = some (.pointer (some ⟨so, 0, none⟩)) ∧ w'.cell? ⟨so, 2, none⟩ = some (.int .i64 S.cs) ∧ w'.cell? ⟨p, 9, none⟩ = some (.int .i64 mi) ∧ w'.cell? ⟨p, 10, none⟩ = some (.int .i64 it)) (go_keep)
      (first
        | (go_at_call 44; (with_reducible refine (RefShift_calls sc r1 b1 k1 S.ls S.cs z e2 r2 b2 k2 _ K5.out.drew.ts N3.out.1 N3.out.2.1 N3.out.2.2 (in64_of H.out.ok.cs) Z64.out H4.out).mono ?_); rintro e w6 hp; have K6 := Aside0.mk (K5.out.drew.setSc hp N4.out.1 N4.out.2.1 N4.out.2.2 H.out.ok.ls); have L6 := Aside0.mk ((L5.out.trans (Keep5.below (below_drew1 (Below.refl _ _)))).trans (Keep5.at_ (p := p) (mo := mo) (mc := mc) (so := so) (sc := sc) hp.2.2.1 (by simp))); obtain rfl := hp.1; clear hp u2 u3 u4 u5 u6 u7 u8 u9 u10 u11 u12 u13 u14 z7 z8 z9 z10 z11 z12 z13 z14 y1 y2; obtain ⟨⟨u2, u3, u4, u5, u6, u7, u8, u9, u10, u11, u12, u13, u14⟩, ⟨z7, z8, z9, z10, z11, z12, z13, z14⟩, y1, y2⟩ := K6.out.cells))
    (try dsimp only at u2 u3 u4 u5 u6 u7 u8 u9 u10 u11 u12 u13 u14 z7 z8 z9 z10 z11 z12 z13 z14 y1 y2)
    by_cases e20 : e2 = 0
    · subst e20
      have hs := HS.out
      rw [if_pos rfl] at hs
      simp only [Prod.mk.injEq] at hs
      obtain ⟨rfl, rfl⟩ := hs
      have kb : KeepBut w6 (((w6.setCell ⟨p, 8, none⟩ (.bool false)).setCell ⟨p, 12, none⟩ (.bool true)).setCell ⟨p, 13, none⟩ (.int .i64 at_)) p none := KeepBut.set_ (KeepBut.set_ (KeepBut.set_ (KeepBut.refl _ _ _) 8 _) 12 _) 13 _
      have K7 := Aside0.mk (K6.out.setP kb (fun B h1 h2 => (((belB (Below.refl _ _) h2).setCell (p := ⟨p, 8, none⟩) h1 _).setCell (p := ⟨p, 12, none⟩) h1 _).setCell (p := ⟨p, 13, none⟩) h1 _) (b' := S.bits) (f' := S.follows) (no := none) (ap := some (it, mi, at_)) (blk_put (blk_put (blk_put K6.out.pr 8 _ rfl) 12 _ rfl) 13 _ rfl) rfl ⟨rfl, rfl⟩)
      have L7 := Aside0.mk (L6.out.trans (Keep5.at_ (p := p) (mo := mo) (mc := mc) (so := so) (sc := sc) kb (by simp)))
      clear kb
      go_wp2_with fail
      go_ret
      exact ⟨rfl, ⟨_, _, _, _, _, _, K7.out.eta rfl⟩, L7.out⟩
    · have hs := HS.out
      rw [if_neg e20] at hs
      simp only [Prod.mk.injEq] at hs
      obtain ⟨rfl, rfl⟩ := hs
      have f2 : (e2 != 0) = true := by rw [bne_iff_ne]; exact e20
      clear e20
      go_wp2_with fail
      go_ret
      exact ⟨rfl, ⟨_, _, _, _, _, _, K6.out.eta rfl⟩, L6.out⟩
set_option maxHeartbeats 2000000 in
set_option maxRecDepth 100000 in
theorem RGap (w W : World) (p mo mc so sc : Nat) (n d tu : Int) (S : AS) (nb : Bool) (mi it at_ : Int) (ab : Bool) (si : Int) (h : PR w W p mo mc so sc n d tu S nb mi it at_ ab si) : Calls Try.prog 27 #[.pointer (some ⟨p, 0, none⟩)] W fun e W' => e = .returned (.int .i64 (gapS S)) ∧ Below W.heap.size W W' := by
  have H := Aside0.mk h
  clear h
  have hu55 := Try.underlying55
  have NA : AppliedIs S.applied ab si := H.out.na
  obtain ⟨⟨u2, u3, u4, u5, u6, u7, u8, u9, u10, u11, u12, u13, u14⟩, ⟨z7, z8, z9, z10, z11, z12, z13, z14⟩, y1, y2⟩ := H.out.cells
  (try dsimp only at u2 u3 u4 u5 u6 u7 u8 u9 u10 u11 u12 u13 u14 z7 z8 z9 z10 z11 z12 z13 z14 y1 y2)
  unfold gapS
  cases ha : S.applied with
  | none =>
    rw [ha] at NA
    obtain rfl : ab = false := NA
    clear ha
    go_enter Try.func27, Try.ntmps27
    go_wp2_with fail
    go_ret
    exact ⟨rfl, Below.refl _ _⟩
  | some q =>
    obtain ⟨qa, qb, qc⟩ := q
    rw [ha] at NA
    obtain ⟨rfl, rfl⟩ := NA
    obtain ⟨z, hz⟩ : ∃ z, wrap64 (S.bits - si) = z := ⟨_, rfl⟩
    have hz2 : IntKind.i64.wrap (S.bits - si) = z := by rw [wrap_same]; exact hz
    show Calls _ _ _ _ fun e W' => e = .returned (.int .i64 (wrap64 (S.bits - si))) ∧ _
    rw [hz]
    clear ha
    go_enter Try.func27, Try.ntmps27
    go_wp2_with fail
    go_quiet (fail)
    go_wp2_with fail
    go_ret
    exact ⟨rfl, pw_below_drewN (Below.refl _ _) _⟩
theorem cells15a {w : World} {g : Nat} {n d tu : Int} {a b : Value} {mc sc : Nat} (h : w.heap[g]? = some (.cells #[.int .i64 n, .int .i64 d, .int .i64 tu, a, b, .pointer (some ⟨mc, 0, none⟩), .pointer (some ⟨sc, 0, none⟩), .int .i64 0, .bool false, .int .i64 0, .int .i64 0, .int .i64 0, .bool false, .int .i64 0, .bool false] 55 (0, 0))) :
    w.cell? ⟨g, 6, none⟩ = some (.pointer (some ⟨sc, 0, none⟩)) ∧ w.frozen? ⟨g, 3, none⟩ = false ∧ w.frozen? ⟨g, 4, none⟩ = false ∧ w.cell? ⟨g, 3, none⟩ = some a ∧ w.cell? ⟨g, 4, none⟩ = some b := ⟨(blk_cell h 6).trans rfl, blk_frozen h 3, blk_frozen h 4, (blk_cell h 3).trans rfl, (blk_cell h 4).trans rfl⟩
set_option maxHeartbeats 4000000 in
set_option maxRecDepth 100000 in
theorem RNew_yes (n d tu start : Int) (w : World) (h : bellbuoyref19_Right.f n d tu = some true) (ho : bellbuoyref16_Right.f n d = some true) (s0 : 0 ≤ start) (s1 : start ≤ 1125899906842624) :
    Calls Try.prog 16 #[.agg #[.int .i64 n, .int .i64 d, .int .i64 tu], .int .i64 start] w fun e w' => ∃ p mo mc so sc, e = .returned (.tuple #[.pointer (some ⟨p, 0, none⟩), .int .i64 0]) ∧ PR w w' p mo mc so sc n d tu (S0 start) false 0 0 0 false 0 := by
  have H := Aside0.mk h
  have HO := Aside0.mk ho
  have v0 : decide (start < 0) = false := decide_eq_false (by omega)
  have v1 : decide (1125899906842624 < start) = false := decide_eq_false (by omega)
  have L1 := Aside0.mk (on0 start s0 s1)
  have L2 := Aside0.mk (look_s start s0 s1)
  have L3 := Aside0.mk (read_s start s0)
  have I0 : Aside0 (In64 0 ∧ In64 1048576 ∧ In64 start) := ⟨by decide, by decide, by unfold In64; omega⟩
  clear h ho s0 s1
  have hu23 := Try.underlying23
  have hu29 := Try.underlying29
  have hu55 := Try.underlying55
  have X0 := Aside0.mk (blk_new w (.cells #[.int .i64 n, .int .i64 d, .int .i64 tu] 29))
  have B0 := Aside0.mk (below_alloc (Below.refl w.heap.size w) (.cells #[.int .i64 n, .int .i64 d, .int .i64 tu] 29))
  obtain ⟨c0, c1, c2⟩ := cells3a X0.out
  go_enter Try.func16, Try.ntmps16
  go_wp2_with fail
  (with_reducible refine (bellbuoyref19_Right.calls n d tu true _ H.out).mono ?_); rintro e w1 ⟨rfl, hb⟩
  have X2 := Aside0.mk (blk_below X0.out hb)
  have B2 := Aside0.mk (below_step B0.out hb)
  clear hb X0 B0 c0 c1 c2
  obtain ⟨c0, c1, c2⟩ := cells3a X2.out
  go_wp2_with fail
  go_region_held3 (fun w' => w'.cell? ⟨w.heap.size, 0, none⟩ = some (.int .i64 n) ∧ w'.cell? ⟨w.heap.size, 1, none⟩ = some (.int .i64 d) ∧ w'.cell? ⟨w.heap.size, 2, none⟩ = some (.int .i64 tu)) (go_keep)
    (first
      | (go_at_call 42; (with_reducible refine (RefClkNew_calls _).mono ?_); rintro e w3 ⟨mc, g1, rfl, hC, hb⟩; have M3 := Aside0.mk (Nat.le_trans B2.out.size g1); have TM := Aside0.mk hC; have X3 := Aside0.mk (blk_below (blk_drew X2.out) hb); have B3 := Aside0.mk (below_step (below_drew1 B2.out) hb); clear hb hC g1 X2 B2 c0 c1 c2; obtain ⟨c0, c1, c2⟩ := cells3a X3.out)
      | (go_at_call 42; (with_reducible refine (RefClkNew_calls _).mono ?_); rintro e w4 ⟨sc, g1, rfl, hC, hb⟩; have M4 := Aside0.mk (Nat.le_trans B3.out.size g1); have N4 : Aside0 (mc ≠ sc) := ⟨by have := blk_lt TM.out; omega⟩; have TM4 := Aside0.mk (TM.out.below hb); have TS := Aside0.mk hC; have X4 := Aside0.mk (blk_below X3.out hb); have B4 := Aside0.mk (below_step B3.out hb); clear hb hC g1 X3 B3 TM c0 c1 c2; obtain ⟨c0, c1, c2⟩ := cells3a X4.out))
  have PB4 := Aside0.mk (blk_new w4 (.cells #[.int .i64 n, .int .i64 d, .int .i64 tu, .pointer none, .pointer none, .pointer (some ⟨mc, 0, none⟩), .pointer (some ⟨sc, 0, none⟩), .int .i64 0, .bool false, .int .i64 0, .int .i64 0, .int .i64 0, .bool false, .int .i64 0, .bool false] 55))
  have X5 := Aside0.mk (blk_alloc X4.out (.cells #[.int .i64 n, .int .i64 d, .int .i64 tu, .pointer none, .pointer none, .pointer (some ⟨mc, 0, none⟩), .pointer (some ⟨sc, 0, none⟩), .int .i64 0, .bool false, .int .i64 0, .int .i64 0, .int .i64 0, .bool false, .int .i64 0, .bool false] 55))
  have TM5 := Aside0.mk (At4.below TM4.out (below_alloc (Below.refl _ w4) (.cells #[.int .i64 n, .int .i64 d, .int .i64 tu, .pointer none, .pointer none, .pointer (some ⟨mc, 0, none⟩), .pointer (some ⟨sc, 0, none⟩), .int .i64 0, .bool false, .int .i64 0, .int .i64 0, .int .i64 0, .bool false, .int .i64 0, .bool false] 55)))
  have TS5 := Aside0.mk (At4.below TS.out (below_alloc (Below.refl _ w4) (.cells #[.int .i64 n, .int .i64 d, .int .i64 tu, .pointer none, .pointer none, .pointer (some ⟨mc, 0, none⟩), .pointer (some ⟨sc, 0, none⟩), .int .i64 0, .bool false, .int .i64 0, .int .i64 0, .int .i64 0, .bool false, .int .i64 0, .bool false] 55)))
  have B5 := Aside0.mk (below_alloc B4.out (.cells #[.int .i64 n, .int .i64 d, .int .i64 tu, .pointer none, .pointer none, .pointer (some ⟨mc, 0, none⟩), .pointer (some ⟨sc, 0, none⟩), .int .i64 0, .bool false, .int .i64 0, .int .i64 0, .int .i64 0, .bool false, .int .i64 0, .bool false] 55))
  have G5 := Aside0.mk B4.out.size
  clear TM4 TS X4 B4 c0 c1 c2
  obtain ⟨c0, c1, c2⟩ := cells3a X5.out
  go_wp2_with fail
  (with_reducible refine (RefNew_yes n d _ HO.out).mono ?_); rintro e w6 ⟨mo, g1, rfl, hI, hb⟩
  have M6 := Aside0.mk (Nat.le_trans B5.out.size g1)
  have OM := Aside0.mk (show RefIs w6 mo n d 0 false from hI)
  have PB6 := Aside0.mk (blk_below PB4.out hb)
  have X6 := Aside0.mk (blk_below X5.out hb)
  have TM6 := Aside0.mk (TM5.out.below hb)
  have TS6 := Aside0.mk (TS5.out.below hb)
  have B6 := Aside0.mk (below_step B5.out hb)
  clear g1 hI hb PB4 X5 TM5 TS5 B5 c0 c1 c2
  obtain ⟨c0, c1, c2⟩ := cells3a X6.out
  go_wp2_with fail
  (with_reducible refine (RefNew_yes n d _ HO.out).mono ?_); rintro e w7 ⟨so, g1, rfl, hI, hb⟩
  have M7 := Aside0.mk (Nat.le_trans B6.out.size g1)
  have N7 : Aside0 (mo ≠ so) := ⟨by have := blk_lt OM.out; omega⟩
  have OM7 := Aside0.mk (show RefIs w7 mo n d 0 false from blk_below OM.out hb)
  have OS7 := Aside0.mk (show RefIs w7 so n d 0 false from hI)
  have PB7 := Aside0.mk (blk_below PB6.out hb)
  have TM7 := Aside0.mk (TM6.out.below hb)
  have TS7 := Aside0.mk (TS6.out.below hb)
  have B7 := Aside0.mk (below_step B6.out hb)
  clear g1 hI hb PB6 X6 TM6 TS6 B6 OM c0 c1 c2
  obtain ⟨k6, f3, f4, k3, k4⟩ := cells15a PB7.out
  have kb : KeepBut w7 ((w7.setCell ⟨w4.heap.size, 3, none⟩ (.pointer (some ⟨mo, 0, none⟩))).setCell ⟨w4.heap.size, 4, none⟩ (.pointer (some ⟨so, 0, none⟩))) w4.heap.size none := KeepBut.set_ (KeepBut.set_ (KeepBut.refl _ _ _) 3 _) 4 _
  have K0 : Aside0 (PR w ((w7.setCell ⟨w4.heap.size, 3, none⟩ (.pointer (some ⟨mo, 0, none⟩))).setCell ⟨w4.heap.size, 4, none⟩ (.pointer (some ⟨so, 0, none⟩))) w4.heap.size mo mc so sc n d tu ⟨0, false, 0, false, 0, 0, 1048576, 0, 0, 0, 1048576, 0, 0, none, none, false⟩ false 0 0 0 false 0) :=
    ⟨⟨blk_put (blk_put PB7.out 3 _ rfl) 4 _ rfl, keep_b kb OM7.out (ne_type OM7.out PB7.out (by decide)), keep_b kb OS7.out (ne_type OS7.out PB7.out (by decide)), keep_b kb TM7.out (ne_type TM7.out PB7.out (by decide)), keep_b kb TS7.out (ne_type TS7.out PB7.out (by decide)), rfl, rfl, below_set (below_set B7.out G5.out) G5.out, ⟨G5.out, M6.out, M3.out, M7.out, M4.out⟩, ⟨N7.out, N4.out⟩, ⟨by decide, by decide, by decide, by decide, by decide, by decide, by decide, by decide, by decide, by decide⟩⟩⟩
  clear kb OM7 OS7 PB7 TM7 TS7 B7 G5 M3 M4 M6 M7 N4 N7
  go_wp2_with fail
  clear k6 f3 f4 k3 k4
  obtain ⟨⟨u2, u3, u4, u5, u6, u7, u8, u9, u10, u11, u12, u13, u14⟩, ⟨z7, z8, z9, z10, z11, z12, z13, z14⟩, y1, y2⟩ := K0.out.cells
  (try dsimp only at u2 u3 u4 u5 u6 u7 u8 u9 u10 u11 u12 u13 u14 z7 z8 z9 z10 z11 z12 z13 z14 y1 y2)
  (with_reducible refine (RefShift_calls sc 0 0 1048576 0 0 start 0 0 start 1048576 _ K0.out.ts I0.out.1 I0.out.1 I0.out.2.1 I0.out.1 I0.out.2.2 L1.out).mono ?_); rintro e w8 hp
  have K1 := Aside0.mk (K0.out.setSc hp I0.out.1 I0.out.2.2 I0.out.2.1 I0.out.1)
  obtain rfl := hp.1
  clear hp u2 u3 u4 u5 u6 u7 u8 u9 u10 u11 u12 u13 u14 z7 z8 z9 z10 z11 z12 z13 z14 y1 y2
  obtain ⟨⟨u2, u3, u4, u5, u6, u7, u8, u9, u10, u11, u12, u13, u14⟩, ⟨z7, z8, z9, z10, z11, z12, z13, z14⟩, y1, y2⟩ := K1.out.cells
  (try dsimp only at u2 u3 u4 u5 u6 u7 u8 u9 u10 u11 u12 u13 u14 z7 z8 z9 z10 z11 z12 z13 z14 y1 y2)
  go_wp2_with fail
  (with_reducible refine (RefRead_to sc 0 start 1048576 0 0 start start true _ K1.out.ts I0.out.1 I0.out.2.2 I0.out.2.1 I0.out.1 L2.out L3.out).mono ?_); rintro e w9 hp
  have K2 := Aside0.mk (K1.out.setSc hp I0.out.1 I0.out.2.2 I0.out.2.1 I0.out.2.2)
  obtain rfl := hp.1
  clear hp
  go_wp2_with fail
  go_ret2
  exact ⟨w4.heap.size, mo, mc, so, sc, rfl, K2.out.eta rfl⟩
set_option maxHeartbeats 4000000 in
set_option maxRecDepth 100000 in
theorem RNew_no (n d tu start : Int) (a : Bool) (w : World) (h : bellbuoyref19_Right.f n d tu = some a) (hab : a = false ∨ start < 0 ∨ 1125899906842624 < start) :
    Calls Try.prog 16 #[.agg #[.int .i64 n, .int .i64 d, .int .i64 tu], .int .i64 start] w fun e w' => e = .returned (.tuple #[.pointer none, .int .i64 1]) ∧ Below w.heap.size w w' := by
  have H := Aside0.mk h
  clear h
  have hu29 := Try.underlying29
  have X0 := Aside0.mk (blk_new w (.cells #[.int .i64 n, .int .i64 d, .int .i64 tu] 29))
  have B0 := Aside0.mk (below_alloc (Below.refl w.heap.size w) (.cells #[.int .i64 n, .int .i64 d, .int .i64 tu] 29))
  obtain ⟨c0, c1, c2⟩ := cells3a X0.out
  cases a with
  | false =>
    clear hab
    go_enter Try.func16, Try.ntmps16
    go_wp2_with fail
    (with_reducible refine (bellbuoyref19_Right.calls n d tu false _ H.out).mono ?_); rintro e w1 ⟨rfl, hb⟩
    go_wp2_with fail
    go_ret2
    exact ⟨rfl, below_step B0.out hb⟩
  | true =>
    by_cases c : start < 0
    · have v0 : decide (start < 0) = true := decide_eq_true c
      clear hab c
      go_enter Try.func16, Try.ntmps16
      go_wp2_with fail
      (with_reducible refine (bellbuoyref19_Right.calls n d tu true _ H.out).mono ?_); rintro e w1 ⟨rfl, hb⟩
      go_wp2_with fail
      go_ret2
      exact ⟨rfl, below_step B0.out hb⟩
    · have v0 : decide (start < 0) = false := decide_eq_false c
      have v1 : decide (1125899906842624 < start) = true := decide_eq_true (by rcases hab with x | x | x; cases x; omega; exact x)
      clear hab c
      go_enter Try.func16, Try.ntmps16
      go_wp2_with fail
      (with_reducible refine (bellbuoyref19_Right.calls n d tu true _ H.out).mono ?_); rintro e w1 ⟨rfl, hb⟩
      go_wp2_with fail
      go_ret2
      exact ⟨rfl, below_step B0.out hb⟩
end Go.Proofs.Ytjnllejfgljkdaa.P
