/- The reference's pair in memory, and its methods, walked by hand. Conditions: each lemma names them. -/
import Derived.Test.YtjnllejfgljkdaaAccordRisesWalk
namespace Go.Proofs.Ytjnllejfgljkdaa.P
open Go.RowKit Go.Proofs.YtjnllejfgljkdaaW.PrintWords Go.Proofs.YtjnllejfgljkdaaW.PrintLast Go.Proofs.YtjnllejfgljkdaaW.PrintMore
set_option linter.unusedVariables false
set_option linter.unusedSimpArgs false
def NotedIs (o : Option (Int × Int × Int)) (b : Bool) (mi it at_ : Int) : Prop := match o with | none => b = false | some (m, s, t) => b = true ∧ it = m ∧ mi = s ∧ at_ = t
def AppliedIs (o : Option (Int × Int × Int)) (b : Bool) (si : Int) : Prop := match o with | none => b = false | some (_, _, t) => b = true ∧ si = t
/-- A pair of the reference in memory. -/
structure PR (w W : World) (p mo mc so sc : Nat) (n d tu : Int) (S : AS) (nb : Bool) (mi it at_ : Int) (ab : Bool) (si : Int) : Prop where
  pr : W.heap[p]? = some (.cells #[.int .i64 n, .int .i64 d, .int .i64 tu, .pointer (some ⟨mo, 0, none⟩), .pointer (some ⟨so, 0, none⟩), .pointer (some ⟨mc, 0, none⟩), .pointer (some ⟨sc, 0, none⟩), .int .i64 S.bits, .bool nb, .int .i64 mi, .int .i64 it, .int .i64 at_, .bool ab, .int .i64 si, .bool S.follows] 55 (0, 0))
  om : RefIs W mo n d S.cm S.wm
  os : RefIs W so n d S.cs S.ws
  tm : At4 51 W mc S.rm S.bm S.km S.lm
  ts : At4 51 W sc S.rs S.bs S.ks S.ls
  nn : NotedIs S.noted nb mi it at_
  na : AppliedIs S.applied ab si
  B : Below w.heap.size w W
  g : w.heap.size ≤ p ∧ w.heap.size ≤ mo ∧ w.heap.size ≤ mc ∧ w.heap.size ≤ so ∧ w.heap.size ≤ sc
  ne : mo ≠ so ∧ mc ≠ sc
  ok : Ok S
theorem PR.eta {w W : World} {p mo mc so sc : Nat} {n d tu : Int} {S : AS} {nb : Bool} {mi it at_ : Int} {ab : Bool} {si : Int} {S' : AS} (h : PR w W p mo mc so sc n d tu S nb mi it at_ ab si) (e : S = S') : PR w W p mo mc so sc n d tu S' nb mi it at_ ab si := e ▸ h
theorem PR.below {w W W' : World} {p mo mc so sc : Nat} {n d tu : Int} {S : AS} {nb : Bool} {mi it at_ : Int} {ab : Bool} {si : Int} (h : PR w W p mo mc so sc n d tu S nb mi it at_ ab si) (hb : Below W.heap.size W W') : PR w W' p mo mc so sc n d tu S nb mi it at_ ab si :=
  ⟨blk_below h.pr hb, blk_below h.om hb, blk_below h.os hb, blk_below h.tm hb, blk_below h.ts hb, h.nn, h.na, below_step h.B hb, h.g, h.ne, h.ok⟩
theorem PR.drew {w W : World} {p mo mc so sc : Nat} {n d tu : Int} {S : AS} {nb : Bool} {mi it at_ : Int} {ab : Bool} {si : Int} (h : PR w W p mo mc so sc n d tu S nb mi it at_ ab si) : PR w W.drew p mo mc so sc n d tu S nb mi it at_ ab si := h.below (below_drew1 (Below.refl _ _))
theorem PR.keep {w W W' : World} {p mo mc so sc : Nat} {n d tu : Int} {S : AS} {nb : Bool} {mi it at_ : Int} {ab : Bool} {si : Int} (h : PR w W p mo mc so sc n d tu S nb mi it at_ ab si) (hk : ∀ (k : Nat) (cs : Array Value) (t : TypeId), t = 55 ∨ t = 79 ∨ t = 51 → W.heap[k]? = some (.cells cs t (0, 0)) → W'.heap[k]? = some (.cells cs t (0, 0))) (hB : Below w.heap.size w W') : PR w W' p mo mc so sc n d tu S nb mi it at_ ab si :=
  ⟨hk _ _ _ (by simp) h.pr, hk _ _ _ (by simp) h.om, hk _ _ _ (by simp) h.os, hk _ _ _ (by simp) h.tm, hk _ _ _ (by simp) h.ts, h.nn, h.na, hB, h.g, h.ne, h.ok⟩
theorem PR.setMo {w W W' : World} {p mo mc so sc : Nat} {n d tu : Int} {S : AS} {nb : Bool} {mi it at_ : Int} {ab : Bool} {si : Int} {r c' : Int} {wl' : Bool} {e : Ending} (h : PR w W p mo mc so sc n d tu S nb mi it at_ ab si) (hp : RefPost mo n d r c' wl' W e W') (hc : 0 ≤ c' ∧ c' ≤ 1152921504606846976) : PR w W' p mo mc so sc n d tu { S with cm := c', wm := wl' } nb mi it at_ ab si :=
  ⟨keep_b hp.2.2.1 h.pr (ne_type h.pr h.om (by decide)), hp.2.1, keep_b hp.2.2.1 h.os (Ne.symm h.ne.1), keep_b hp.2.2.1 h.tm (ne_type h.tm h.om (by decide)), keep_b hp.2.2.1 h.ts (ne_type h.ts h.om (by decide)), h.nn, h.na, h.B.trans (hp.2.2.2 _ h.g.2.1 h.B.size), h.g, h.ne, ⟨hc, h.ok.cs, h.ok.rm, h.ok.bm, h.ok.km, h.ok.lm, h.ok.rs, h.ok.bs, h.ok.ks, h.ok.ls⟩⟩
theorem PR.setSo {w W W' : World} {p mo mc so sc : Nat} {n d tu : Int} {S : AS} {nb : Bool} {mi it at_ : Int} {ab : Bool} {si : Int} {r c' : Int} {wl' : Bool} {e : Ending} (h : PR w W p mo mc so sc n d tu S nb mi it at_ ab si) (hp : RefPost so n d r c' wl' W e W') (hc : 0 ≤ c' ∧ c' ≤ 1152921504606846976) : PR w W' p mo mc so sc n d tu { S with cs := c', ws := wl' } nb mi it at_ ab si :=
  ⟨keep_b hp.2.2.1 h.pr (ne_type h.pr h.os (by decide)), keep_b hp.2.2.1 h.om h.ne.1, hp.2.1, keep_b hp.2.2.1 h.tm (ne_type h.tm h.os (by decide)), keep_b hp.2.2.1 h.ts (ne_type h.ts h.os (by decide)), h.nn, h.na, h.B.trans (hp.2.2.2 _ h.g.2.2.2.1 h.B.size), h.g, h.ne, ⟨h.ok.cm, hc, h.ok.rm, h.ok.bm, h.ok.km, h.ok.lm, h.ok.rs, h.ok.bs, h.ok.ks, h.ok.ls⟩⟩
theorem PR.setMc {w W W' : World} {p mo mc so sc : Nat} {n d tu : Int} {S : AS} {nb : Bool} {mi it at_ : Int} {ab : Bool} {si : Int} {l' : Int} {v : Value} {e : Ending} (h : PR w W p mo mc so sc n d tu S nb mi it at_ ab si) (hp : P4 51 mc S.rm S.bm S.km l' v W e W') (hl : In64 l') : PR w W' p mo mc so sc n d tu { S with lm := l' } nb mi it at_ ab si :=
  ⟨keep_b hp.2.2.1 h.pr (ne_type h.pr h.tm (by decide)), keep_b hp.2.2.1 h.om (ne_type h.om h.tm (by decide)), keep_b hp.2.2.1 h.os (ne_type h.os h.tm (by decide)), hp.2.1, keep_b hp.2.2.1 h.ts (Ne.symm h.ne.2), h.nn, h.na, h.B.trans (hp.2.2.2 _ h.g.2.2.1 h.B.size), h.g, h.ne, ⟨h.ok.cm, h.ok.cs, h.ok.rm, h.ok.bm, h.ok.km, hl, h.ok.rs, h.ok.bs, h.ok.ks, h.ok.ls⟩⟩
theorem PR.setSc {w W W' : World} {p mo mc so sc : Nat} {n d tu : Int} {S : AS} {nb : Bool} {mi it at_ : Int} {ab : Bool} {si : Int} {r' b' k' l' : Int} {v : Value} {e : Ending} (h : PR w W p mo mc so sc n d tu S nb mi it at_ ab si) (hp : P4 51 sc r' b' k' l' v W e W') (hr : In64 r') (hb : In64 b') (hk : In64 k') (hl : In64 l') : PR w W' p mo mc so sc n d tu { S with rs := r', bs := b', ks := k', ls := l' } nb mi it at_ ab si :=
  ⟨keep_b hp.2.2.1 h.pr (ne_type h.pr h.ts (by decide)), keep_b hp.2.2.1 h.om (ne_type h.om h.ts (by decide)), keep_b hp.2.2.1 h.os (ne_type h.os h.ts (by decide)), keep_b hp.2.2.1 h.tm h.ne.2, hp.2.1, h.nn, h.na, h.B.trans (hp.2.2.2 _ h.g.2.2.2.2 h.B.size), h.g, h.ne, ⟨h.ok.cm, h.ok.cs, h.ok.rm, h.ok.bm, h.ok.km, h.ok.lm, hr, hb, hk, hl⟩⟩
theorem PR.setP {w W W' : World} {p mo mc so sc : Nat} {n d tu : Int} {S : AS} {nb : Bool} {mi it at_ : Int} {ab : Bool} {si : Int} (h : PR w W p mo mc so sc n d tu S nb mi it at_ ab si) (hk : KeepBut W W' p none) (hB : ∀ B, B ≤ p → B ≤ W.heap.size → Below B W W') {b' : Int} {f' nb' ab' : Bool} {mi' it' at' si' : Int} {no ap : Option (Int × Int × Int)}
    (hp : W'.heap[p]? = some (.cells #[.int .i64 n, .int .i64 d, .int .i64 tu, .pointer (some ⟨mo, 0, none⟩), .pointer (some ⟨so, 0, none⟩), .pointer (some ⟨mc, 0, none⟩), .pointer (some ⟨sc, 0, none⟩), .int .i64 b', .bool nb', .int .i64 mi', .int .i64 it', .int .i64 at', .bool ab', .int .i64 si', .bool f'] 55 (0, 0)))
    (hn : NotedIs no nb' mi' it' at') (ha : AppliedIs ap ab' si') : PR w W' p mo mc so sc n d tu { S with bits := b', noted := no, applied := ap, follows := f' } nb' mi' it' at' ab' si' :=
  ⟨hp, keep_b hk h.om (ne_type h.om h.pr (by decide)), keep_b hk h.os (ne_type h.os h.pr (by decide)), keep_b hk h.tm (ne_type h.tm h.pr (by decide)), keep_b hk h.ts (ne_type h.ts h.pr (by decide)), hn, ha, h.B.trans (hB _ h.g.1 h.B.size), h.g, h.ne, ⟨h.ok.cm, h.ok.cs, h.ok.rm, h.ok.bm, h.ok.km, h.ok.lm, h.ok.rs, h.ok.bs, h.ok.ks, h.ok.ls⟩⟩
theorem PR.cells {w W : World} {p mo mc so sc : Nat} {n d tu : Int} {S : AS} {nb : Bool} {mi it at_ : Int} {ab : Bool} {si : Int} (h : PR w W p mo mc so sc n d tu S nb mi it at_ ab si) :
    (W.cell? ⟨p, 2, none⟩ = some (.int .i64 tu) ∧ W.cell? ⟨p, 3, none⟩ = some (.pointer (some ⟨mo, 0, none⟩)) ∧ W.cell? ⟨p, 4, none⟩ = some (.pointer (some ⟨so, 0, none⟩)) ∧ W.cell? ⟨p, 5, none⟩ = some (.pointer (some ⟨mc, 0, none⟩)) ∧ W.cell? ⟨p, 6, none⟩ = some (.pointer (some ⟨sc, 0, none⟩)) ∧
    W.cell? ⟨p, 7, none⟩ = some (.int .i64 S.bits) ∧ W.cell? ⟨p, 8, none⟩ = some (.bool nb) ∧ W.cell? ⟨p, 9, none⟩ = some (.int .i64 mi) ∧ W.cell? ⟨p, 10, none⟩ = some (.int .i64 it) ∧ W.cell? ⟨p, 11, none⟩ = some (.int .i64 at_) ∧ W.cell? ⟨p, 12, none⟩ = some (.bool ab) ∧ W.cell? ⟨p, 13, none⟩ = some (.int .i64 si) ∧ W.cell? ⟨p, 14, none⟩ = some (.bool S.follows)) ∧
    (W.frozen? ⟨p, 7, none⟩ = false ∧ W.frozen? ⟨p, 8, none⟩ = false ∧ W.frozen? ⟨p, 9, none⟩ = false ∧ W.frozen? ⟨p, 10, none⟩ = false ∧ W.frozen? ⟨p, 11, none⟩ = false ∧ W.frozen? ⟨p, 12, none⟩ = false ∧ W.frozen? ⟨p, 13, none⟩ = false ∧ W.frozen? ⟨p, 14, none⟩ = false) ∧
    W.cell? ⟨mo, 2, none⟩ = some (.int .i64 S.cm) ∧ W.cell? ⟨so, 2, none⟩ = some (.int .i64 S.cs) :=
  ⟨⟨(blk_cell h.pr 2).trans rfl, (blk_cell h.pr 3).trans rfl, (blk_cell h.pr 4).trans rfl, (blk_cell h.pr 5).trans rfl, (blk_cell h.pr 6).trans rfl, (blk_cell h.pr 7).trans rfl, (blk_cell h.pr 8).trans rfl, (blk_cell h.pr 9).trans rfl, (blk_cell h.pr 10).trans rfl, (blk_cell h.pr 11).trans rfl, (blk_cell h.pr 12).trans rfl, (blk_cell h.pr 13).trans rfl, (blk_cell h.pr 14).trans rfl⟩,
    ⟨blk_frozen h.pr 7, blk_frozen h.pr 8, blk_frozen h.pr 9, blk_frozen h.pr 10, blk_frozen h.pr 11, blk_frozen h.pr 12, blk_frozen h.pr 13, blk_frozen h.pr 14⟩, (blk_cell h.om 2).trans rfl, (blk_cell h.os 2).trans rfl⟩
set_option maxHeartbeats 8000000 in
set_option maxRecDepth 100000 in
theorem RStep (w W : World) (p mo mc so sc : Nat) (n d tu : Int) (S : AS) (nb : Bool) (mi it at_ : Int) (ab : Bool) (si : Int) (x y r : Int) (S' : AS) (h : PR w W p mo mc so sc n d tu S nb mi it at_ ab si) (n0 : 1 ≤ n) (n1 : n ≤ 1048576) (d0 : 0 ≤ d) (d1 : d < n) (hs : stepS n d S x y = (r, S')) :
    Calls Try.prog 22 #[.pointer (some ⟨p, 0, none⟩), .int .i64 x, .int .i64 y] W fun e W' => e = .returned (.int .i64 r) ∧ PR w W' p mo mc so sc n d tu S' nb mi it at_ ab si ∧ Keep5 W W' p mo mc so sc := by
  have H := Aside0.mk h
  have HN := Aside0.mk (And.intro n0 (And.intro n1 (And.intro d0 d1)))
  clear h n0 n1 d0 d1
  rcases h1 : stepF n d S.cm S.wm x with ⟨r1, c1, w1⟩
  rcases h2 : stepF n d S.cs S.ws y with ⟨r2, c2, w2⟩
  have H1 := Aside0.mk h1
  have H2 := Aside0.mk h2
  have b1 := Aside0.mk (stepF_bounds h1 H.out.ok.cm.1 H.out.ok.cm.2)
  have b2 := Aside0.mk (stepF_bounds h2 H.out.ok.cs.1 H.out.ok.cs.2)
  have HS1 : Aside0 (∀ (W : World) (g : Nat), RefIs W g n d S.cm S.wm → Calls Try.prog 54 #[.pointer (some ⟨g, 0, none⟩), .int .i64 x] W (RefPost g n d r1 c1 w1 W)) := ⟨fun W g hg => RefStep_calls g n d S.cm x r1 c1 S.wm w1 W hg H.out.ok.cm.1 H.out.ok.cm.2 HN.out.1 HN.out.2.1 HN.out.2.2.1 HN.out.2.2.2 h1⟩
  have HS2 : Aside0 (∀ (W : World) (g : Nat), RefIs W g n d S.cs S.ws → Calls Try.prog 54 #[.pointer (some ⟨g, 0, none⟩), .int .i64 y] W (RefPost g n d r2 c2 w2 W)) := ⟨fun W g hg => RefStep_calls g n d S.cs y r2 c2 S.ws w2 W hg H.out.ok.cs.1 H.out.ok.cs.2 HN.out.1 HN.out.2.1 HN.out.2.2.1 HN.out.2.2.2 h2⟩
  have X0 : Aside0 (RefIs (W.alloc (.cells #[.int .i64 n, .int .i64 d, .int .i64 S.cm, .bool S.wm] 79)) W.heap.size n d S.cm S.wm) := ⟨blk_new W _⟩
  have BN : Aside0 (∀ W', RefPost W.heap.size n d r1 c1 w1 (W.alloc (.cells #[.int .i64 n, .int .i64 d, .int .i64 S.cm, .bool S.wm] 79)) (.returned (.int .i64 r1)) W' → Below W.heap.size W W') := ⟨fun W' hp => (below_alloc (Below.refl _ W) _).trans (hp.2.2.2 _ (Nat.le_refl _) (by simp))⟩
  unfold stepS at hs
  rw [h1, h2] at hs
  simp only [] at hs
  have hu55 := Try.underlying55
  have hu79 := Try.underlying79
  obtain ⟨⟨u2, u3, u4, u5, u6, u7, u8, u9, u10, u11, u12, u13, u14⟩, ⟨z7, z8, z9, z10, z11, z12, z13, z14⟩, y1, y2⟩ := H.out.cells
  (try dsimp only at u2 u3 u4 u5 u6 u7 u8 u9 u10 u11 u12 u13 u14 z7 z8 z9 z10 z11 z12 z13 z14 y1 y2)
  obtain ⟨o0, o1, o2, o3, _, _, _, _⟩ := cells4 H.out.om
  by_cases e1 : r1 = 0
  case neg =>
    rw [if_neg e1] at hs
    simp only [Prod.mk.injEq] at hs
    obtain ⟨rfl, rfl⟩ := hs
    have f1 : (r1 != 0) = true := by rw [bne_iff_ne]; exact e1
    clear h1 h2 e1
    go_enter Try.func22, Try.ntmps22
    go_wp2_with fail
    (with_reducible refine (HS1.out _ _ X0.out).mono ?_); rintro e w3 hp
    obtain rfl := hp.1
    have hb := BN.out _ hp
    clear hp
    go_wp2_with fail
    go_ret
    exact ⟨rfl, H.out.below hb, Keep5.below hb⟩
  subst e1
  rw [if_pos rfl] at hs
  by_cases e2 : r2 = 0
  case neg =>
    rw [if_neg e2] at hs
    simp only [Prod.mk.injEq] at hs
    obtain ⟨rfl, rfl⟩ := hs
    have f2 : (r2 != 0) = true := by rw [bne_iff_ne]; exact e2
    obtain ⟨rfl, rfl⟩ := stepF_same h2 e2
    clear h1 h2 e2
    go_enter Try.func22, Try.ntmps22
    go_wp2_with fail
    (with_reducible refine (HS1.out _ _ X0.out).mono ?_); rintro e w3 hp
    obtain rfl := hp.1
    have hb := BN.out _ hp
    have K3 := Aside0.mk (H.out.below hb)
    have L3 : Aside0 (Keep5 W w3 p mo mc so sc) := ⟨Keep5.below hb⟩
    clear hb hp o0 o1 o2 o3 u2 u3 u4 u5 u6 u7 u8 u9 u10 u11 u12 u13 u14 z7 z8 z9 z10 z11 z12 z13 z14 y1 y2
    obtain ⟨⟨u2, u3, u4, u5, u6, u7, u8, u9, u10, u11, u12, u13, u14⟩, ⟨z7, z8, z9, z10, z11, z12, z13, z14⟩, y1, y2⟩ := K3.out.cells
    (try dsimp only at u2 u3 u4 u5 u6 u7 u8 u9 u10 u11 u12 u13 u14 z7 z8 z9 z10 z11 z12 z13 z14 y1 y2)
    go_wp2_with fail
    (with_reducible refine (HS2.out _ _ K3.out.os).mono ?_); rintro e w4 hp
    have K4 := Aside0.mk (K3.out.setSo hp H.out.ok.cs)
    have L4 := Aside0.mk (L3.out.trans (Keep5.at_ (p := p) (mo := mo) (mc := mc) (so := so) (sc := sc) hp.2.2.1 (by simp)))
    obtain rfl := hp.1
    clear hp
    go_wp2_with fail
    go_ret
    exact ⟨rfl, K4.out, L4.out⟩
  subst e2
  rw [if_pos rfl] at hs
  simp only [Prod.mk.injEq] at hs
  obtain ⟨rfl, hS'⟩ := hs
  rcases h3 : lookV S.rm S.bm S.km c1 with ⟨t1, o1'⟩
  rcases h4 : lookV S.rs S.bs S.ks c2 with ⟨t2, o2'⟩
  obtain ⟨l1, h5⟩ : ∃ l1, readV S.lm t1 o1' = l1 := ⟨_, rfl⟩
  obtain ⟨l2, h6⟩ : ∃ l2, readV S.ls t2 o2' = l2 := ⟨_, rfl⟩
  have H3 := Aside0.mk h3
  have H4 := Aside0.mk h4
  have H5 := Aside0.mk h5
  have H6 := Aside0.mk h6
  have L64 : Aside0 (In64 l1 ∧ In64 l2) := ⟨h5 ▸ read_64 h3 H.out.ok.lm, h6 ▸ read_64 h4 H.out.ok.ls⟩
  have HS := Aside0.mk hS'
  clear h1 h2 h3 h4 h5 h6 hS'
  go_enter Try.func22, Try.ntmps22
  go_wp2_with fail
  (with_reducible refine (HS1.out _ _ X0.out).mono ?_); rintro e w3 hp
  obtain rfl := hp.1
  have hb := BN.out _ hp
  have K3 := Aside0.mk (H.out.below hb)
  have L3 : Aside0 (Keep5 W w3 p mo mc so sc) := ⟨Keep5.below hb⟩
  clear hb hp o0 o1 o2 o3 u2 u3 u4 u5 u6 u7 u8 u9 u10 u11 u12 u13 u14 z7 z8 z9 z10 z11 z12 z13 z14 y1 y2
  obtain ⟨⟨u2, u3, u4, u5, u6, u7, u8, u9, u10, u11, u12, u13, u14⟩, ⟨z7, z8, z9, z10, z11, z12, z13, z14⟩, y1, y2⟩ := K3.out.cells
  (try dsimp only at u2 u3 u4 u5 u6 u7 u8 u9 u10 u11 u12 u13 u14 z7 z8 z9 z10 z11 z12 z13 z14 y1 y2)
  go_wp2_with fail
  (with_reducible refine (HS2.out _ _ K3.out.os).mono ?_); rintro e w4 hp
  have K4 := Aside0.mk (K3.out.setSo hp b2.out)
  have L4 := Aside0.mk (L3.out.trans (Keep5.at_ (p := p) (mo := mo) (mc := mc) (so := so) (sc := sc) hp.2.2.1 (by simp)))
  obtain rfl := hp.1
  clear hp K3 L3 u2 u3 u4 u5 u6 u7 u8 u9 u10 u11 u12 u13 u14 z7 z8 z9 z10 z11 z12 z13 z14 y1 y2
  obtain ⟨⟨u2, u3, u4, u5, u6, u7, u8, u9, u10, u11, u12, u13, u14⟩, ⟨z7, z8, z9, z10, z11, z12, z13, z14⟩, y1, y2⟩ := K4.out.cells
  (try dsimp only at u2 u3 u4 u5 u6 u7 u8 u9 u10 u11 u12 u13 u14 z7 z8 z9 z10 z11 z12 z13 z14 y1 y2)
  go_wp2_with fail
  (with_reducible refine (HS1.out _ _ K4.out.om).mono ?_); rintro e w5 hp
  have K5 := Aside0.mk (K4.out.setMo hp b1.out)
  have L5 := Aside0.mk (L4.out.trans (Keep5.at_ (p := p) (mo := mo) (mc := mc) (so := so) (sc := sc) hp.2.2.1 (by simp)))
  obtain rfl := hp.1
  clear hp K4 L4 u2 u3 u4 u5 u6 u7 u8 u9 u10 u11 u12 u13 u14 z7 z8 z9 z10 z11 z12 z13 z14 y1 y2
  obtain ⟨⟨u2, u3, u4, u5, u6, u7, u8, u9, u10, u11, u12, u13, u14⟩, ⟨z7, z8, z9, z10, z11, z12, z13, z14⟩, y1, y2⟩ := K5.out.cells
  (try dsimp only at u2 u3 u4 u5 u6 u7 u8 u9 u10 u11 u12 u13 u14 z7 z8 z9 z10 z11 z12 z13 z14 y1 y2)
  have kb : KeepBut w5 (w5.setCell ⟨p, 7, none⟩ (.int .i64 (wrap64 (S.bits + 1)))) p none := KeepBut.set_ (KeepBut.refl _ _ _) 7 _
  have K6 := Aside0.mk (K5.out.setP kb (fun B h1 h2 => (belB (Below.refl _ _) h2).setCell (p := ⟨p, 7, none⟩) h1 _) (b' := wrap64 (S.bits + 1)) (f' := S.follows) (blk_put K5.out.pr 7 _ rfl) K5.out.nn K5.out.na)
  have L6 := Aside0.mk (L5.out.trans (Keep5.at_ (p := p) (mo := mo) (mc := mc) (so := so) (sc := sc) kb (by simp)))
  clear kb K5 L5
  go_wp2_with fail
  clear u2 u3 u4 u5 u6 u7 u8 u9 u10 u11 u12 u13 u14 z7 z8 z9 z10 z11 z12 z13 z14 y1 y2
  obtain ⟨⟨u2, u3, u4, u5, u6, u7, u8, u9, u10, u11, u12, u13, u14⟩, ⟨z7, z8, z9, z10, z11, z12, z13, z14⟩, y1, y2⟩ := K6.out.cells
  (try dsimp only at u2 u3 u4 u5 u6 u7 u8 u9 u10 u11 u12 u13 u14 z7 z8 z9 z10 z11 z12 z13 z14 y1 y2)
  go_region_held3 (fun w' => w'.cell? ⟨p, 5, none⟩ = some (.pointer (some ⟨mc, 0, none⟩)) ∧ w'.cell? ⟨p, 3, none⟩ = some (.pointer (some ⟨mo, 0, none⟩)) ∧ w'.cell? ⟨mo, 2, none⟩ = some (.int .i64 c1)) (go_keep)
    (first
      | (go_at_call 45; (with_reducible refine (RefRead_to mc S.rm S.bm S.km S.lm c1 t1 l1 o1' _ K6.out.drew.tm H.out.ok.rm H.out.ok.bm H.out.ok.km (in64_of b1.out) H3.out H5.out).mono ?_); rintro e w7 hp; have K7 := Aside0.mk (K6.out.drew.setMc hp L64.out.1); have L7 := Aside0.mk ((L6.out.trans (Keep5.below (below_drew1 (Below.refl _ _)))).trans (Keep5.at_ (p := p) (mo := mo) (mc := mc) (so := so) (sc := sc) hp.2.2.1 (by simp))); obtain rfl := hp.1; clear hp u2 u3 u4 u5 u6 u7 u8 u9 u10 u11 u12 u13 u14 z7 z8 z9 z10 z11 z12 z13 z14 y1 y2; obtain ⟨⟨u2, u3, u4, u5, u6, u7, u8, u9, u10, u11, u12, u13, u14⟩, ⟨z7, z8, z9, z10, z11, z12, z13, z14⟩, y1, y2⟩ := K7.out.cells))
  (try dsimp only at u2 u3 u4 u5 u6 u7 u8 u9 u10 u11 u12 u13 u14 z7 z8 z9 z10 z11 z12 z13 z14 y1 y2)
  go_wp2_with fail
  go_region_held3 (fun w' => w'.cell? ⟨p, 6, none⟩ = some (.pointer (some ⟨sc, 0, none⟩)) ∧ w'.cell? ⟨p, 4, none⟩ = some (.pointer (some ⟨so, 0, none⟩)) ∧ w'.cell? ⟨so, 2, none⟩ = some (.int .i64 c2)) (go_keep)
    (first
      | (go_at_call 45; (with_reducible refine (RefRead_to sc S.rs S.bs S.ks S.ls c2 t2 l2 o2' _ K7.out.drew.ts H.out.ok.rs H.out.ok.bs H.out.ok.ks (in64_of b2.out) H4.out H6.out).mono ?_); rintro e w8 hp; have K8 := Aside0.mk (K7.out.drew.setSc hp H.out.ok.rs H.out.ok.bs H.out.ok.ks L64.out.2); have L8 := Aside0.mk ((L7.out.trans (Keep5.below (below_drew1 (Below.refl _ _)))).trans (Keep5.at_ (p := p) (mo := mo) (mc := mc) (so := so) (sc := sc) hp.2.2.1 (by simp))); obtain rfl := hp.1; clear hp u2 u3 u4 u5 u6 u7 u8 u9 u10 u11 u12 u13 u14 z7 z8 z9 z10 z11 z12 z13 z14 y1 y2; obtain ⟨⟨u2, u3, u4, u5, u6, u7, u8, u9, u10, u11, u12, u13, u14⟩, ⟨z7, z8, z9, z10, z11, z12, z13, z14⟩, y1, y2⟩ := K8.out.cells))
  (try dsimp only at u2 u3 u4 u5 u6 u7 u8 u9 u10 u11 u12 u13 u14 z7 z8 z9 z10 z11 z12 z13 z14 y1 y2)
  go_wp2_with fail
  go_region_held3 (fun w' => w'.cell? ⟨p, 6, none⟩ = some (.pointer (some ⟨sc, 0, none⟩)) ∧ w'.cell? ⟨p, 4, none⟩ = some (.pointer (some ⟨so, 0, none⟩)) ∧ w'.cell? ⟨so, 2, none⟩ = some (.int .i64 c2)) (go_keep)
    (first
      | (go_at_call 47; (with_reducible refine (RefLook_calls sc S.rs S.bs S.ks l2 c2 t2 o2' _ K8.out.drew.ts H.out.ok.rs H.out.ok.bs H.out.ok.ks (in64_of b2.out) H4.out).mono ?_); rintro e w9 ⟨rfl, hb⟩; have K9 := Aside0.mk (K8.out.drew.below hb); have L9 := Aside0.mk ((L8.out.trans (Keep5.below (below_drew1 (Below.refl _ _)))).trans (Keep5.below hb)); clear hb u2 u3 u4 u5 u6 u7 u8 u9 u10 u11 u12 u13 u14 z7 z8 z9 z10 z11 z12 z13 z14 y1 y2; obtain ⟨⟨u2, u3, u4, u5, u6, u7, u8, u9, u10, u11, u12, u13, u14⟩, ⟨z7, z8, z9, z10, z11, z12, z13, z14⟩, y1, y2⟩ := K9.out.cells))
  (try dsimp only at u2 u3 u4 u5 u6 u7 u8 u9 u10 u11 u12 u13 u14 z7 z8 z9 z10 z11 z12 z13 z14 y1 y2)
  have NA : AppliedIs S.applied ab si := H.out.na
  cases ha : S.applied with
  | none =>
    rw [ha] at NA
    obtain rfl : ab = false := NA
    have EQ := Aside0.mk (AS.next_eq S (w1 := w1) (w2 := w2) H3.out H5.out H4.out H6.out (f := S.follows) (by rw [ha]; simp))
    clear ha
    go_wp2_with fail
    go_ret
    exact ⟨rfl, (K9.out.eta (EQ.out.symm.trans HS.out)), L9.out⟩
  | some q =>
    rw [ha] at NA
    obtain ⟨qa, qb, qc⟩ := q
    obtain ⟨rfl, hsi⟩ := NA
    clear hsi
    have on : (S.follows || (S.applied.isSome && o2' && (t2 == l2))) = (S.follows || (o2' && (t2 == l2))) := by rw [ha]; simp
    have kb : KeepBut w9 (w9.setCell ⟨p, 14, none⟩ (.bool true)) p none := KeepBut.set_ (KeepBut.refl _ _ _) 14 _
    have K10 := Aside0.mk (K9.out.setP kb (fun B h1 h2 => (belB (Below.refl _ _) h2).setCell (p := ⟨p, 14, none⟩) h1 _) (b' := wrap64 (S.bits + 1)) (f' := true) (blk_put K9.out.pr 14 _ rfl) K9.out.nn K9.out.na)
    have L10 := Aside0.mk (L9.out.trans (Keep5.at_ (p := p) (mo := mo) (mc := mc) (so := so) (sc := sc) kb (by simp)))
    clear kb ha
    cases o2' with
    | false =>
      have EQ := Aside0.mk (AS.next_eq S (w1 := w1) (w2 := w2) H3.out H5.out H4.out H6.out (f := S.follows) (by rw [on]; simp))
      clear on
      go_wp2_with fail
      go_ret
      exact ⟨rfl, (K9.out.eta (EQ.out.symm.trans HS.out)), L9.out⟩
    | true =>
      have com : (l2 == t2) = (t2 == l2) := by rw [Bool.eq_iff_iff, beq_iff_eq, beq_iff_eq]; exact eq_comm
      cases he : (t2 == l2) with
      | false =>
        rw [he] at com
        have EQ := Aside0.mk (AS.next_eq S (w1 := w1) (w2 := w2) H3.out H5.out H4.out H6.out (f := S.follows) (by rw [on, he]; simp))
        clear on
        go_wp2_with fail
        go_ret
        exact ⟨rfl, (K9.out.eta (EQ.out.symm.trans HS.out)), L9.out⟩
      | true =>
        rw [he] at com
        have EQ := Aside0.mk (AS.next_eq S (w1 := w1) (w2 := w2) H3.out H5.out H4.out H6.out (f := true) (by rw [on, he]; simp))
        clear on
        go_wp2_with fail
        go_ret
        exact ⟨rfl, (K10.out.eta (EQ.out.symm.trans HS.out)), L10.out⟩
end Go.Proofs.Ytjnllejfgljkdaa.P
