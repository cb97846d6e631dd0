/- All timings of so many ticks a bit, by the program's iterators. Conditions: the ranges that each lemma names. -/
import Derived.Test.YtgekhkigeanajaaSeqLaw
import Derived.Test.YtgekhkigeanajaaPx
namespace Go.Proofs.Ytgekhkigeanajaa.P
open Go.RowKit Go.Proofs.YtgekhkigeanajaaW.PrintWords Go.Proofs.YtgekhkigeanajaaW.PrintLast Go.Proofs.YtgekhkigeanajaaW.PrintMore
attribute [local go_sem] Oper.semAt_some
set_option linter.unusedVariables false
set_option linter.unusedSimpArgs false
/-- A timing. -/
structure Tm where
  k : Int
  p : Int
  a : Int
  b : Int
  j : Int
def Tm.v (t : Tm) : Value := .agg #[.int .i64 t.k, .int .i64 t.p, .int .i64 t.a, .int .i64 t.b, .int .i64 t.j]
def Tm.rightB (t : Tm) : Bool := decide ((1 ≤ t.k ∧ t.k ≤ 1024) ∧ (1 ≤ t.p ∧ t.p ≤ 8) ∧ (1 ≤ t.a ∧ t.a ≤ 8) ∧ (1 ≤ t.b ∧ t.b ≤ 8) ∧ (1 ≤ t.j ∧ t.j ≤ 4 ∧ t.j ≤ t.a ∧ t.j ≤ t.b) ∧ 8 ≤ 1 + t.p + t.a + t.b ∧ 1 + t.p + t.a + t.b ≤ 25)
theorem within_eq (n m : Int) : timing_within.f n m = some (decide (1 ≤ n ∧ n ≤ m)) := by
  unfold timing_within.f
  by_cases h1 : n ≥ 1 <;> by_cases h2 : n ≤ m <;> simp [h1, h2]
theorem wr_small (n : Int) (h0 : -1000000 ≤ n) (h1 : n ≤ 1000000) : wrap64 n = n := by unfold wrap64; omega
theorem timed_right_eq (k p a b j : Int) : timing_timed_right.f k p a b j = some (Tm.rightB ⟨k, p, a, b, j⟩) := by
  unfold timing_timed_right.f timing_timed_quanta.f Tm.rightB
  simp only [within_eq, Option.bind_some]
  by_cases hp : 1 ≤ p ∧ p ≤ 8
  · by_cases ha : 1 ≤ a ∧ a ≤ 8
    · by_cases hb : 1 ≤ b ∧ b ≤ 8
      · have e1 : wrap64 (1 + p) = 1 + p := wr_small _ (by omega) (by omega)
        have e2 : wrap64 (1 + p + a) = 1 + p + a := wr_small _ (by omega) (by omega)
        have e3 : wrap64 (1 + p + a + b) = 1 + p + a + b := wr_small _ (by omega) (by omega)
        have em : (1 ≤ j ∧ j ≤ mn (mn 4 a) b) ↔ (1 ≤ j ∧ j ≤ 4 ∧ j ≤ a ∧ j ≤ b) := by
          unfold mn
          (repeat' split) <;> omega
        simp only [hp, ha, hb, em, e1, e2, e3, and_self, decide_true, if_true]
        by_cases k1 : 1 ≤ k <;> by_cases k2 : k ≤ 1024 <;> by_cases hj : (1 ≤ j ∧ j ≤ 4 ∧ j ≤ a ∧ j ≤ b) <;> by_cases q1 : 8 ≤ 1 + p + a + b <;> simp [k1, k2, hj, q1]
      · simp only [hp, ha, hb, and_self, decide_true, decide_false, if_true, false_and, and_false, Bool.false_eq_true, if_false]
        split <;> (try split) <;> rfl
    · simp only [hp, ha, and_self, decide_true, decide_false, if_true, false_and, and_false, Bool.false_eq_true, if_false]
      split <;> (try split) <;> rfl
  · simp only [hp, and_self, decide_true, decide_false, if_true, false_and, and_false, Bool.false_eq_true, if_false]
    split <;> (try split) <;> rfl
def shapeAt (q : Int) (i : Nat) : Tm := ⟨1, (i : Int) / 32 + 1, (i : Int) / 4 % 8 + 1, q - 1 - ((i : Int) / 32 + 1) - ((i : Int) / 4 % 8 + 1), (i : Int) % 4 + 1⟩
theorem tm_cells {w : World} {g : Nat} {t : Tm} {ty : TypeId} (h : w.heap[g]? = some (.cells #[.int .i64 t.k, .int .i64 t.p, .int .i64 t.a, .int .i64 t.b, .int .i64 t.j] ty (0, 0))) :
    w.cell? ⟨g, 0, none⟩ = some (.int .i64 t.k) ∧ w.cell? ⟨g, 1, none⟩ = some (.int .i64 t.p) ∧ w.cell? ⟨g, 2, none⟩ = some (.int .i64 t.a) ∧ w.cell? ⟨g, 3, none⟩ = some (.int .i64 t.b) ∧ w.cell? ⟨g, 4, none⟩ = some (.int .i64 t.j) :=
  ⟨(blk_cell h 0).trans rfl, (blk_cell h 1).trans rfl, (blk_cell h 2).trans rfl, (blk_cell h 3).trans rfl, (blk_cell h 4).trans rfl⟩
def shL (q : Int) (k : Nat) : List Tm := ((List.range k).map (shapeAt q)).filter Tm.rightB
theorem shL_succ (q : Int) (k : Nat) : shL q (k + 1) = if (shapeAt q k).rightB = true then shL q k ++ [shapeAt q k] else shL q k := by
  unfold shL
  rw [List.range_succ, List.map_append, List.filter_append]
  simp only [List.map_cons, List.map_nil, List.filter_cons, List.filter_nil]
  split <;> simp
theorem shL_len (q : Int) (k : Nat) : (shL q k).length ≤ k := by
  unfold shL
  exact Nat.le_trans (List.length_filter_le _ _) (by simp)
theorem shapes_in (F : Fence) (n : Nat) (h : F.fn 44) (hro : F.round = none) (q : Int) (w : World) :
    CallsIn F n Try.prog 44 #[.int .i64 q] w fun e w' => e = .returned (.func (.func 54) #[] #[.pointer (some ⟨w.heap.size, 0, none⟩)]) ∧ w' = w.alloc (.cells #[.int .i64 q] 3) := by
  refine callsIn_of_wp Try.func44 rfl h ?_ hro
  simp only [Try.ntmps44, List.size_toArray, List.length_cons, List.length_nil, Nat.reduceAdd, Nat.reduceSub, Array.replicate_succ, Array.replicate_zero, List.push_toArray, List.append_toArray, List.nil_append, List.cons_append]
  gi_wp2
  go_ret
  exact ⟨rfl, rfl⟩
theorem meas_next {N k : Nat} {x : Int} (hx : x = ((k + 1 : Nat) : Int)) (h : k < N) : N - (intOf (.int .i64 x)).toNat < N - (intOf (.int .i64 (k : Int))).toNat := by
  subst hx
  simp only [intOf, Int.toNat_natCast]
  omega
set_option maxRecDepth 100000 in
set_option maxHeartbeats 4000000 in
theorem shapes1_seq (n : Nat) (Bq : Nat) (q : Int) (w : World) (q0 : 8 ≤ q) (q1 : q ≤ 25) (hB : Bq < w.heap.size) (hc : w.cell? ⟨Bq, 0, none⟩ = some (.int .i64 q)) :
    SeqR Fence.wide n Try.prog 54 #[.pointer (some ⟨Bq, 0, none⟩)] (fun x : Tm => #[x.v]) (fun xs => xs = shL q 256) 256 (fun k => k = Bq) w := fun l g0 J W hg0 hW hJ hJc hY h0 => by
  have hBW : Bq < W.heap.size := Nat.lt_of_lt_of_le hB hW.size
  have hcW := (hW.cell (p := ⟨Bq, 0, none⟩) hB).trans hc
  have HY := Aside0.mk hY
  have HJ := Aside0.mk hJ
  have HJC := Aside0.mk hJc
  have QB := Aside0.mk (And.intro q0 q1)
  have HB := Aside0.mk hBW
  have hu39 := Try.underlying39
  have hu23 := Try.underlying23
  have H0 := Aside0.mk h0
  have HG0 : Aside0 (g0 ≠ some Bq) := ⟨hg0 Bq rfl⟩
  obtain ⟨N, hN⟩ : ∃ N : Nat, N = 256 := ⟨_, rfl⟩
  have HN := Aside0.mk hN
  clear hN
  clear hY hJ hJc q0 q1 hc hBW h0 hW hB
  refine callsIn_of_wp Try.func54 rfl trivial ?_ rfl
  simp only [Try.ntmps54, List.size_toArray, List.length_cons, List.length_nil, Nat.reduceAdd, Nat.reduceSub, Array.replicate_succ, Array.replicate_zero, List.push_toArray, List.append_toArray, List.nil_append, List.cons_append]
  gi_wp2
  gi_loopw [5] (fun i wr => ∃ k : Nat, i = .int .i64 (k : Int) ∧ Aside0 (k ≤ 256) ∧ Aside0 (∃ g, J g (shL q k) wr ∧ g ≠ some Bq) ∧ Aside0 (wr.cell? ⟨Bq, 0, none⟩ = some (.int .i64 q)) ∧ Aside0 (W.heap.size ≤ wr.heap.size)) (fun i _ => N - (intOf i).toNat)
  case atStart => exact ⟨0, rfl, ⟨by omega⟩, ⟨⟨g0, H0.out, HG0.out⟩⟩, ⟨hcW⟩, ⟨Nat.le_refl _⟩⟩
  case round =>
    obtain ⟨k, rfl, HK, HG, HC, HS⟩ := hrel
    clear hcW
    have hcq := HC.out
    by_cases hlt : k < 256
    · have u1 : decide ((k : Int) < 256) = true := decide_eq_true (by omega)
      have u2 : decide (k < 256) = true := decide_eq_true hlt
      have hlw : Bq < wr.heap.size := Nat.lt_of_lt_of_le HB.out HS.out
      have hca : ∀ o, (wr.alloc o).cell? ⟨Bq, 0, none⟩ = some (.int .i64 q) := fun o => (World.cell?_alloc_lt _ _ _ hlw).trans HC.out
      have e1 : wrap64 (q - 1) = q - 1 := wr_small _ (by have := QB.out; omega) (by have := QB.out; omega)
      have e2 : wrap64 (q - 1 - ((k : Int) / 32 + 1)) = q - 1 - ((k : Int) / 32 + 1) := wr_small _ (by have := QB.out; omega) (by have := QB.out; omega)
      have e3 : wrap64 (q - 1 - ((k : Int) / 32 + 1) - ((k : Int) / 4 % 8 + 1)) = q - 1 - ((k : Int) / 32 + 1) - ((k : Int) / 4 % 8 + 1) := wr_small _ (by have := QB.out; omega) (by have := QB.out; omega)
      have HL := Aside0.mk hlt
      gi_wp2
      refine ⟨trivial, (fun h => by cases h), ?_⟩
      refine (callsIn_wide.2 (timing_timed_right.calls _ _ _ _ _ _ _ (timed_right_eq _ _ _ _ _))).mono ?_
      rintro e w5 ⟨rfl, hb⟩
      have hb0 : Below wr.heap.size wr w5 := below_step (below_alloc (Below.refl _ _) _) hb
      have BK : Aside0 (w5.heap[wr.heap.size]? = some (.cells #[.int .i64 (shapeAt q k).k, .int .i64 (shapeAt q k).p, .int .i64 (shapeAt q k).a, .int .i64 (shapeAt q k).b, .int .i64 (shapeAt q k).j] 39 (0, 0))) := ⟨blk_below (blk_new wr _) hb⟩
      have HC5 : Aside0 (w5.cell? ⟨Bq, 0, none⟩ = some (.int .i64 q)) := ⟨(hb0.cell (p := ⟨Bq, 0, none⟩) hlw).trans HC.out⟩
      have HS5 : Aside0 (W.heap.size ≤ w5.heap.size) := ⟨Nat.le_trans HS.out hb0.size⟩
      obtain ⟨g, hg, hgne⟩ := HG.out
      have hg5 : J g (shL q k) w5 := HJ.out g _ _ _ none hg (grown_of_below hb0 none) (fun r e => by cases e)
      have SU := shL_succ q k
      have hk1 : wrap64 ((k : Int) + 1) = ((k + 1 : Nat) : Int) := by rw [wr_small _ (by omega) (by have := HL.out; omega)]; rfl
      clear hb hb0 hcq hca hlw e1 e2 e3 hg hlt
      cases hr : (shapeAt q k).rightB
      · have hr' : Tm.rightB ⟨1, (k : Int) / 32 + 1, (k : Int) / 4 % 8 + 1, q - 1 - ((k : Int) / 32 + 1) - ((k : Int) / 4 % 8 + 1), (k : Int) % 4 + 1⟩ = false := hr
        rw [hr']
        rw [hr, if_neg (by decide)] at SU
        have G5 : Aside0 (∃ g, J g (shL q (k + 1)) w5 ∧ g ≠ some Bq) := ⟨⟨g, by rw [SU]; exact hg5, hgne⟩⟩
        clear hg5 hgne hr hr' SU
        gi_wp2
        refine ⟨fun _ h => (by cases h), ?_⟩
        gi_wp2
        go_roundw
        case rel => exact ⟨k + 1, by first | rw [hk1] | simp, ⟨by have := HL.out; omega⟩, G5, HC5, HS5⟩
        case measure => exact meas_next hk1 (by rw [HN.out]; exact HL.out)
      · have hr' : Tm.rightB ⟨1, (k : Int) / 32 + 1, (k : Int) / 4 % 8 + 1, q - 1 - ((k : Int) / 32 + 1) - ((k : Int) / 4 % 8 + 1), (k : Int) % 4 + 1⟩ = true := hr
        rw [hr']
        rw [hr, if_pos rfl] at SU
        obtain ⟨fn, tmps, assign, body, hy, hR⟩ := HY.out g (shL q k) (shapeAt q k) w5 hg5 (Nat.lt_of_le_of_lt (shL_len q k) HL.out)
        dsimp only [Tm.v, shapeAt] at hy
        obtain ⟨d0, d1, d2, d3, d4⟩ := tm_cells BK.out
        dsimp only [shapeAt] at d0 d1 d2 d3 d4
        have GN := Aside0.mk hgne
        clear hg5 hgne hr hr'
        gi_wp2
        refine ⟨(fun h => by cases h), hR.mono ?_⟩
        rintro e W3 ⟨rfl, ⟨g', hJ3, hg'⟩, hk3⟩
        have HB5 : Bq < w5.heap.size := Nat.lt_of_lt_of_le HB.out HS5.out
        have G3 : Aside0 (∃ g, J g (shL q (k + 1)) W3 ∧ g ≠ some Bq) := ⟨⟨g', by rw [SU]; exact hJ3, by
          rcases hg' with rfl | ⟨r, rfl, hr⟩
          · exact GN.out
          · intro e; cases e; omega⟩⟩
        have HC3 : Aside0 (W3.cell? ⟨Bq, 0, none⟩ = some (.int .i64 q)) := ⟨(World.cell?_of_block (w := w5) (w' := W3) (hk3.keep Bq HB5 (fun q => by
          rcases q with ⟨_, q⟩ | q
          · exact q rfl
          · exact GN.out q))).trans HC5.out⟩
        have HS3 : Aside0 (W.heap.size ≤ W3.heap.size) := ⟨Nat.le_trans HS5.out hk3.size⟩
        clear hJ3 hg' hk3 HB5 hy hR SU d0 d1 d2 d3 d4
        gi_wp2
        go_roundw
        case rel => exact ⟨k + 1, by first | rw [hk1] | simp, ⟨by have := HL.out; omega⟩, G3, HC3, HS3⟩
        case measure => exact meas_next hk1 (by rw [HN.out]; exact HL.out)
    · obtain rfl : k = 256 := by have := HK.out; omega
      gi_wp2
      go_end0
      obtain ⟨g, hg, _⟩ := HG.out
      exact ⟨⟨_, rfl⟩, _, g, rfl, hg⟩
end Go.Proofs.Ytgekhkigeanajaa.P
