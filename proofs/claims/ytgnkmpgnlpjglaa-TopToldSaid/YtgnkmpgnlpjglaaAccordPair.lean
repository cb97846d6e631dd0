/- A pair in memory, and its sides' methods, walked by hand. Conditions: each lemma names them. -/
import Derived.Test.YtgnkmpgnlpjglaaAccordState
namespace Go.Proofs.Ytgnkmpgnlpjglaa.P
open Go.RowKit Go.Proofs.YtgnkmpgnlpjglaaW.PrintWords Go.Proofs.YtgnkmpgnlpjglaaW.PrintLast Go.Proofs.YtgnkmpgnlpjglaaW.PrintMore
set_option linter.unusedVariables false
set_option linter.unusedSimpArgs false
theorem ne_type {w : World} {a b : Nat} {cs ds : Array Value} {t u : TypeId} {x y : Nat × Nat} (h : w.heap[a]? = some (.cells cs t x)) (k : w.heap[b]? = some (.cells ds u y)) (htu : t ≠ u) : a ≠ b := by
  rintro rfl
  rw [h] at k
  have := Option.some.inj k
  injection this with _ h2 _
  exact htu h2
/-- A note, or none. -/
def NoteIs (w W : World) (v : Value) (o : Option (Int × Int × Int)) : Prop :=
  match o with
  | none => v = .pointer none
  | some (a, b, c) => ∃ g, v = .pointer (some ⟨g, 0, none⟩) ∧ W.heap[g]? = some (.cells #[.int .i64 a, .int .i64 b, .int .i64 c] 120 (0, 0)) ∧ w.heap.size ≤ g
theorem NoteIs.keep {w W W' : World} {v : Value} {o : Option (Int × Int × Int)} (h : NoteIs w W v o) (hk : ∀ (g : Nat) (cs : Array Value), W.heap[g]? = some (.cells cs 120 (0, 0)) → W'.heap[g]? = some (.cells cs 120 (0, 0))) : NoteIs w W' v o := by
  unfold NoteIs at *
  split at h
  · exact h
  · obtain ⟨g, e, hg, hb⟩ := h
    exact ⟨g, e, hk g _ hg, hb⟩
/-- A pair in memory: its own block, both oscillators, both clocks, what is noted and applied. -/
structure PA (w W : World) (p mo mc so sc : Nat) (n d tu : Int) (S : AS) (vn va : Value) : Prop where
  pr : W.heap[p]? = some (.cells #[.int .i64 n, .int .i64 d, .int .i64 tu, .pointer (some ⟨mo, 0, none⟩), .pointer (some ⟨mc, 0, none⟩), .pointer (some ⟨so, 0, none⟩), .pointer (some ⟨sc, 0, none⟩), .int .i64 S.bits, vn, va, .bool S.follows] 108 (0, 0))
  om : OscIs W mo n d S.cm S.wm
  os : OscIs W so n d S.cs S.ws
  tm : At4 98 W mc S.rm S.bm S.km S.lm
  ts : At4 98 W sc S.rs S.bs S.ks S.ls
  nn : NoteIs w W vn S.noted
  na : NoteIs w W va S.applied
  B : Below w.heap.size w W
  g : w.heap.size ≤ p ∧ w.heap.size ≤ mo ∧ w.heap.size ≤ mc ∧ w.heap.size ≤ so ∧ w.heap.size ≤ sc
  ne : mo ≠ so ∧ mc ≠ sc
  ok : Ok S
theorem PA.below {w W W' : World} {p mo mc so sc : Nat} {n d tu : Int} {S : AS} {vn va : Value} (h : PA w W p mo mc so sc n d tu S vn va) (hb : Below W.heap.size W W') : PA w W' p mo mc so sc n d tu S vn va :=
  ⟨blk_below h.pr hb, blk_below h.om hb, blk_below h.os hb, blk_below h.tm hb, blk_below h.ts hb, NoteIs.keep h.nn fun g cs hg => blk_below hg hb, NoteIs.keep h.na fun g cs hg => blk_below hg hb, below_step h.B hb, h.g, h.ne, h.ok⟩
theorem PA.alloc {w W : World} {p mo mc so sc : Nat} {n d tu : Int} {S : AS} {vn va : Value} (h : PA w W p mo mc so sc n d tu S vn va) (o : Obj) : PA w (W.alloc o) p mo mc so sc n d tu S vn va := h.below (below_alloc (Below.refl _ _) _)
theorem PA.drew {w W : World} {p mo mc so sc : Nat} {n d tu : Int} {S : AS} {vn va : Value} (h : PA w W p mo mc so sc n d tu S vn va) : PA w W.drew p mo mc so sc n d tu S vn va := h.below (below_drew1 (Below.refl _ _))
theorem PA.drewN {w W : World} {p mo mc so sc : Nat} {n d tu : Int} {S : AS} {vn va : Value} (h : PA w W p mo mc so sc n d tu S vn va) (m : Nat) : PA w (W.drewN m) p mo mc so sc n d tu S vn va := h.below (pw_below_drewN (Below.refl _ _) m)
theorem keep_b {W W' : World} {g k : Nat} {o : Obj} (h : KeepBut W W' g none) (hk : W.heap[k]? = some o) (hne : k ≠ g) : W'.heap[k]? = some o := by
  have hlt : k < W.heap.size := (Array.getElem?_eq_some_iff.1 hk).1
  rw [h.2 k hlt hne (by simp)]
  exact hk
/-- The master's oscillator has counted. -/
theorem PA.setMo {w W W' : World} {p mo mc so sc : Nat} {n d tu : Int} {S : AS} {vn va : Value} {r c' : Int} {wl' : Bool} {e : Ending} (h : PA w W p mo mc so sc n d tu S vn va) (hp : StepPost mo n d r c' wl' W e W') (hc : 0 ≤ c' ∧ c' ≤ 1152921504606846976) : PA w W' p mo mc so sc n d tu { S with cm := c', wm := wl' } vn va :=
  ⟨keep_b hp.2.2.1 h.pr (ne_type h.pr h.om (by decide)), hp.2.1, keep_b hp.2.2.1 h.os (Ne.symm h.ne.1), keep_b hp.2.2.1 h.tm (ne_type h.tm h.om (by decide)), keep_b hp.2.2.1 h.ts (ne_type h.ts h.om (by decide)),
    NoteIs.keep h.nn fun g cs hg => keep_b hp.2.2.1 hg (ne_type hg h.om (by decide)), NoteIs.keep h.na fun g cs hg => keep_b hp.2.2.1 hg (ne_type hg h.om (by decide)), h.B.trans (hp.2.2.2 _ h.g.2.1 h.B.size), h.g, h.ne, ⟨hc, h.ok.cs, h.ok.rm, h.ok.bm, h.ok.km, h.ok.lm, h.ok.rs, h.ok.bs, h.ok.ks, h.ok.ls⟩⟩
theorem PA.setSo {w W W' : World} {p mo mc so sc : Nat} {n d tu : Int} {S : AS} {vn va : Value} {r c' : Int} {wl' : Bool} {e : Ending} (h : PA w W p mo mc so sc n d tu S vn va) (hp : StepPost so n d r c' wl' W e W') (hc : 0 ≤ c' ∧ c' ≤ 1152921504606846976) : PA w W' p mo mc so sc n d tu { S with cs := c', ws := wl' } vn va :=
  ⟨keep_b hp.2.2.1 h.pr (ne_type h.pr h.os (by decide)), keep_b hp.2.2.1 h.om h.ne.1, hp.2.1, keep_b hp.2.2.1 h.tm (ne_type h.tm h.os (by decide)), keep_b hp.2.2.1 h.ts (ne_type h.ts h.os (by decide)),
    NoteIs.keep h.nn fun g cs hg => keep_b hp.2.2.1 hg (ne_type hg h.os (by decide)), NoteIs.keep h.na fun g cs hg => keep_b hp.2.2.1 hg (ne_type hg h.os (by decide)), h.B.trans (hp.2.2.2 _ h.g.2.2.2.1 h.B.size), h.g, h.ne, ⟨h.ok.cm, hc, h.ok.rm, h.ok.bm, h.ok.km, h.ok.lm, h.ok.rs, h.ok.bs, h.ok.ks, h.ok.ls⟩⟩
theorem PA.setMc {w W W' : World} {p mo mc so sc : Nat} {n d tu : Int} {S : AS} {vn va : Value} {l' : Int} {v : Value} {e : Ending} (h : PA w W p mo mc so sc n d tu S vn va) (hp : P4 98 mc S.rm S.bm S.km l' v W e W') (hl : In64 l') : PA w W' p mo mc so sc n d tu { S with lm := l' } vn va :=
  ⟨keep_b hp.2.2.1 h.pr (ne_type h.pr h.tm (by decide)), keep_b hp.2.2.1 h.om (ne_type h.om h.tm (by decide)), keep_b hp.2.2.1 h.os (ne_type h.os h.tm (by decide)), hp.2.1, keep_b hp.2.2.1 h.ts (Ne.symm h.ne.2),
    NoteIs.keep h.nn fun g cs hg => keep_b hp.2.2.1 hg (ne_type hg h.tm (by decide)), NoteIs.keep h.na fun g cs hg => keep_b hp.2.2.1 hg (ne_type hg h.tm (by decide)), h.B.trans (hp.2.2.2 _ h.g.2.2.1 h.B.size), h.g, h.ne, ⟨h.ok.cm, h.ok.cs, h.ok.rm, h.ok.bm, h.ok.km, hl, h.ok.rs, h.ok.bs, h.ok.ks, h.ok.ls⟩⟩
theorem PA.setSc {w W W' : World} {p mo mc so sc : Nat} {n d tu : Int} {S : AS} {vn va : Value} {r' b' k' l' : Int} {v : Value} {e : Ending} (h : PA w W p mo mc so sc n d tu S vn va) (hp : P4 98 sc r' b' k' l' v W e W') (hr : In64 r') (hb : In64 b') (hk : In64 k') (hl : In64 l') : PA w W' p mo mc so sc n d tu { S with rs := r', bs := b', ks := k', ls := l' } vn va :=
  ⟨keep_b hp.2.2.1 h.pr (ne_type h.pr h.ts (by decide)), keep_b hp.2.2.1 h.om (ne_type h.om h.ts (by decide)), keep_b hp.2.2.1 h.os (ne_type h.os h.ts (by decide)), keep_b hp.2.2.1 h.tm h.ne.2, hp.2.1,
    NoteIs.keep h.nn fun g cs hg => keep_b hp.2.2.1 hg (ne_type hg h.ts (by decide)), NoteIs.keep h.na fun g cs hg => keep_b hp.2.2.1 hg (ne_type hg h.ts (by decide)), h.B.trans (hp.2.2.2 _ h.g.2.2.2.2 h.B.size), h.g, h.ne, ⟨h.ok.cm, h.ok.cs, h.ok.rm, h.ok.bm, h.ok.km, h.ok.lm, hr, hb, hk, hl⟩⟩
/-- A cell of the pair's own block is another one. -/
theorem PA.setP {w W W' : World} {p mo mc so sc : Nat} {n d tu : Int} {S : AS} {vn va : Value} (h : PA w W p mo mc so sc n d tu S vn va) (hk : KeepBut W W' p none) (hB : ∀ B, B ≤ p → B ≤ W.heap.size → Below B W W') {b' : Int} {vn' va' : Value} {f' : Bool} {no ap : Option (Int × Int × Int)}
    (hp : W'.heap[p]? = some (.cells #[.int .i64 n, .int .i64 d, .int .i64 tu, .pointer (some ⟨mo, 0, none⟩), .pointer (some ⟨mc, 0, none⟩), .pointer (some ⟨so, 0, none⟩), .pointer (some ⟨sc, 0, none⟩), .int .i64 b', vn', va', .bool f'] 108 (0, 0)))
    (hn : NoteIs w W' vn' no) (ha : NoteIs w W' va' ap) : PA w W' p mo mc so sc n d tu { S with bits := b', noted := no, applied := ap, follows := f' } vn' va' :=
  ⟨hp, keep_b hk h.om (ne_type h.om h.pr (by decide)), keep_b hk h.os (ne_type h.os h.pr (by decide)), keep_b hk h.tm (ne_type h.tm h.pr (by decide)), keep_b hk h.ts (ne_type h.ts h.pr (by decide)), hn, ha, h.B.trans (hB _ h.g.1 h.B.size), h.g, h.ne, ⟨h.ok.cm, h.ok.cs, h.ok.rm, h.ok.bm, h.ok.km, h.ok.lm, h.ok.rs, h.ok.bs, h.ok.ks, h.ok.ls⟩⟩
theorem PA.notesP {w W W' : World} {p mo mc so sc : Nat} {n d tu : Int} {S : AS} {vn va : Value} (h : PA w W p mo mc so sc n d tu S vn va) (hk : KeepBut W W' p none) : NoteIs w W' vn S.noted ∧ NoteIs w W' va S.applied :=
  ⟨NoteIs.keep h.nn fun g cs hg => keep_b hk hg (ne_type hg h.pr (by decide)), NoteIs.keep h.na fun g cs hg => keep_b hk hg (ne_type hg h.pr (by decide))⟩
theorem PA.cells {w W : World} {p mo mc so sc : Nat} {n d tu : Int} {S : AS} {vn va : Value} (h : PA w W p mo mc so sc n d tu S vn va) :
    W.cell? ⟨p, 2, none⟩ = some (.int .i64 tu) ∧ W.cell? ⟨p, 3, none⟩ = some (.pointer (some ⟨mo, 0, none⟩)) ∧ W.cell? ⟨p, 4, none⟩ = some (.pointer (some ⟨mc, 0, none⟩)) ∧ W.cell? ⟨p, 5, none⟩ = some (.pointer (some ⟨so, 0, none⟩)) ∧ W.cell? ⟨p, 6, none⟩ = some (.pointer (some ⟨sc, 0, none⟩)) ∧
    W.cell? ⟨p, 7, none⟩ = some (.int .i64 S.bits) ∧ W.cell? ⟨p, 8, none⟩ = some vn ∧ W.cell? ⟨p, 9, none⟩ = some va ∧ W.cell? ⟨p, 10, none⟩ = some (.bool S.follows) ∧
    W.frozen? ⟨p, 7, none⟩ = false ∧ W.frozen? ⟨p, 8, none⟩ = false ∧ W.frozen? ⟨p, 9, none⟩ = false ∧ W.frozen? ⟨p, 10, none⟩ = false :=
  ⟨(blk_cell h.pr 2).trans rfl, (blk_cell h.pr 3).trans rfl, (blk_cell h.pr 4).trans rfl, (blk_cell h.pr 5).trans rfl, (blk_cell h.pr 6).trans rfl, (blk_cell h.pr 7).trans rfl, (blk_cell h.pr 8).trans rfl, (blk_cell h.pr 9).trans rfl, (blk_cell h.pr 10).trans rfl, blk_frozen h.pr 7, blk_frozen h.pr 8, blk_frozen h.pr 9, blk_frozen h.pr 10⟩
theorem cells2a {w : World} {g : Nat} {a b : Value} {t : TypeId} (h : w.heap[g]? = some (.cells #[a, b] t (0, 0))) :
    w.cell? ⟨g, 0, none⟩ = some a ∧ w.cell? ⟨g, 1, none⟩ = some b :=
  ⟨(blk_cell h 0).trans rfl, (blk_cell h 1).trans rfl⟩
set_option maxHeartbeats 2000000 in
set_option maxRecDepth 100000 in
theorem may_calls (mo mc : Nat) (n d c t r c' : Int) (wl wl' : Bool) (w : World) (h : OscIs w mo n d c wl) (hc : 0 ≤ c ∧ c ≤ 1152921504606846976) (n0 : 1 ≤ n) (n1 : n ≤ 1048576) (hs : stepF n d c wl t = (r, c', wl')) :
    Calls Try.prog 57 #[.agg #[.pointer (some ⟨mo, 0, none⟩), .pointer (some ⟨mc, 0, none⟩)], .int .i64 t] w fun e w' => e = .returned (.int .i64 r) ∧ Below w.heap.size w w' := by
  have HS : Aside0 (∀ (w : World) (g : Nat), OscIs w g n d c wl → Calls Try.prog 58 #[.pointer (some ⟨g, 0, none⟩), .int .i64 t] w (StepPost g n d r c' wl' w)) := ⟨fun w g hg => Step_calls g n d c t r c' wl wl' w hg hc.1 hc.2 n0 n1 hs⟩
  have IK : Aside0 (OscIs ((w.alloc (.cells #[.pointer (some ⟨mo, 0, none⟩), .pointer (some ⟨mc, 0, none⟩)] 104)).alloc (.cells #[.int .i64 n, .int .i64 d, .int .i64 c, .bool wl] 138)) (w.heap.size + 1) n d c wl) := ⟨by
    have e := blk_new (w.alloc (.cells #[.pointer (some ⟨mo, 0, none⟩), .pointer (some ⟨mc, 0, none⟩)] 104)) (.cells #[.int .i64 n, .int .i64 d, .int .i64 c, .bool wl] 138)
    rw [show (w.alloc (.cells #[.pointer (some ⟨mo, 0, none⟩), .pointer (some ⟨mc, 0, none⟩)] 104)).heap.size = w.heap.size + 1 by simp] at e
    exact e⟩
  obtain ⟨c0, c1, c2, c3, f0, f1, f2, f3⟩ := cells4 (blk_alloc h (.cells #[.pointer (some ⟨mo, 0, none⟩), .pointer (some ⟨mc, 0, none⟩)] 104))
  clear h hc n0 n1 hs
  have hu66 := Try.underlying104
  have hu107 := Try.underlying138
  go_enter Try.func57, Try.ntmps57
  go_wp2_with fail
  (with_reducible refine (HS.out _ _ IK.out).mono ?_)
  rintro e w1 ⟨rfl, hI, hK, hB⟩
  go_wp2_with fail
  go_ret
  exact ⟨rfl, (below_alloc (below_alloc (Below.refl _ w) _) _).trans (hB _ (by simp) (by simp; omega))⟩
set_option maxHeartbeats 2000000 in
set_option maxRecDepth 100000 in
theorem has_calls (mo mc : Nat) (n d c r b k l t : Int) (wl ok : Bool) (w : World) (h : OscIs w mo n d c wl) (hm : At4 98 w mc r b k l) (hr : In64 r) (hb : In64 b) (hk : In64 k) (hc : In64 c) (hl : lookV r b k c = (t, ok)) :
    Calls Try.prog 59 #[.agg #[.pointer (some ⟨mo, 0, none⟩), .pointer (some ⟨mc, 0, none⟩)]] w fun e w' => e = .returned (.tuple #[.int .i64 t, .bool ok]) ∧ Below w.heap.size w w' := by
  have HO : Aside0 (OscIs (w.alloc (.cells #[.pointer (some ⟨mo, 0, none⟩), .pointer (some ⟨mc, 0, none⟩)] 104)).drew mo n d c wl) := ⟨blk_drew (blk_alloc h _)⟩
  have HL := Aside0.mk (Look_calls mc r b k l c t ok (w.alloc (.cells #[.pointer (some ⟨mo, 0, none⟩), .pointer (some ⟨mc, 0, none⟩)] 104)).drew (blk_drew (blk_alloc hm _)) hr hb hk hc hl)
  have BX := Aside0.mk (blk_drew (blk_new w (.cells #[.pointer (some ⟨mo, 0, none⟩), .pointer (some ⟨mc, 0, none⟩)] 104)))
  have BB := Aside0.mk (below_drew1 (below_alloc (Below.refl w.heap.size w) (.cells #[.pointer (some ⟨mo, 0, none⟩), .pointer (some ⟨mc, 0, none⟩)] 104)))
  clear h hm hr hb hk hc hl
  obtain ⟨c0, c1⟩ := cells2a BX.out
  have hu66 := Try.underlying104
  go_enter Try.func59, Try.ntmps59
  go_wp2_with fail
  go_region_held3 (fun w' => w'.cell? ⟨w.heap.size, 0, none⟩ = some (.pointer (some ⟨mo, 0, none⟩)) ∧ w'.cell? ⟨w.heap.size, 1, none⟩ = some (.pointer (some ⟨mc, 0, none⟩))) (go_keep)
    (first
      | (go_at_call 67; (with_reducible refine (Count_calls mo n d c wl _ HO.out).mono ?_); rintro e w1 ⟨rfl, rfl⟩)
      | (go_at_call 50; (with_reducible refine HL.out.mono ?_); rintro e w2 ⟨rfl, hb⟩; have B2 := Aside0.mk (below_step BB.out hb); have BX2 := Aside0.mk (blk_below BX.out hb); clear hb c0 c1; obtain ⟨c0, c1⟩ := cells2a BX2.out))
  go_wp2
  go_ret2
  exact ⟨rfl, B2.out⟩
set_option maxHeartbeats 2000000 in
set_option maxRecDepth 100000 in
theorem read_calls (mo mc : Nat) (n d c r b k l t l' : Int) (wl ok : Bool) (w : World) (h : OscIs w mo n d c wl) (hm : At4 98 w mc r b k l) (hr : In64 r) (hb : In64 b) (hk : In64 k) (hc : In64 c) (hl : lookV r b k c = (t, ok)) (hl' : readV l t ok = l') :
    Calls Try.prog 56 #[.agg #[.pointer (some ⟨mo, 0, none⟩), .pointer (some ⟨mc, 0, none⟩)]] w (P4 98 mc r b k l' (.int .i64 l') w) := by
  have HN : Aside0 (w.heap.size ≠ mc) := ⟨by have := blk_lt hm; omega⟩
  have HO : Aside0 (OscIs (w.alloc (.cells #[.pointer (some ⟨mo, 0, none⟩), .pointer (some ⟨mc, 0, none⟩)] 104)).drew mo n d c wl) := ⟨blk_drew (blk_alloc h _)⟩
  have HL := Aside0.mk (Read_to mc r b k l c t l' ok (w.alloc (.cells #[.pointer (some ⟨mo, 0, none⟩), .pointer (some ⟨mc, 0, none⟩)] 104)).drew (blk_drew (blk_alloc hm _)) hr hb hk hc hl hl')
  have BX := Aside0.mk (blk_drew (blk_new w (.cells #[.pointer (some ⟨mo, 0, none⟩), .pointer (some ⟨mc, 0, none⟩)] 104)))
  have BB := Aside0.mk (below_drew1 (below_alloc (Below.refl w.heap.size w) (.cells #[.pointer (some ⟨mo, 0, none⟩), .pointer (some ⟨mc, 0, none⟩)] 104)))
  clear h hm hr hb hk hc hl hl'
  obtain ⟨c0, c1⟩ := cells2a BX.out
  have hu66 := Try.underlying104
  go_enter Try.func56, Try.ntmps56
  go_wp2_with fail
  go_region_held3 (fun w' => w'.cell? ⟨w.heap.size, 0, none⟩ = some (.pointer (some ⟨mo, 0, none⟩)) ∧ w'.cell? ⟨w.heap.size, 1, none⟩ = some (.pointer (some ⟨mc, 0, none⟩))) (go_keep)
    (first
      | (go_at_call 67; (with_reducible refine (Count_calls mo n d c wl _ HO.out).mono ?_); rintro e w1 ⟨rfl, rfl⟩)
      | (go_at_call 18; (with_reducible refine HL.out.mono ?_); rintro e w2 hp; have HP := Aside0.mk hp; have BX2 := Aside0.mk (keep_b hp.2.2.1 BX.out HN.out); obtain rfl := hp.1; clear hp c0 c1; obtain ⟨c0, c1⟩ := cells2a BX2.out))
  go_wp2
  go_ret
  exact ⟨rfl, HP.out.2.1, KeepBut.trans (KeepBut.of_below BB.out mc none) HP.out.2.2.1 (.inl rfl), fun B h1 h2 => (belB BB.out h2).trans (HP.out.2.2.2 B h1 (Nat.le_trans h2 BB.out.size))⟩
end Go.Proofs.Ytgnkmpgnlpjglaa.P
