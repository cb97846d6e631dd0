/- How many timings there are of so many ticks a bit, and their list, by the program. Conditions: the ranges that each lemma names. -/
import Derived.Test.YtgekhkigeanajaaTimingAll
import Derived.Maps.OwnIn
namespace Go.Proofs.Ytgekhkigeanajaa.P
open Go.RowKit Go.Proofs.YtgekhkigeanajaaW.PrintWords Go.Proofs.YtgekhkigeanajaaW.PrintLast Go.Proofs.YtgekhkigeanajaaW.PrintMore
attribute [local go_sem] Oper.semAt_some
set_option linter.unusedVariables false
set_option linter.unusedSimpArgs false
theorem allL_len (bit : Int) : (allL bit).length ≤ 4608 := by
  unfold allL
  split
  · exact allTo_len bit 18
  · exact Nat.zero_le _
theorem below_from {B : Nat} {a b c : World} {row : Option Nat} (h : Below B a b) (hg : b.grownBy c row) (hB : B ≤ a.heap.size) (hr : ∀ r, row = some r → B ≤ r) : Below B a c := h.grown hg (Nat.le_trans hB h.size) hr
set_option maxRecDepth 100000 in
set_option maxHeartbeats 4000000 in
theorem All_in (n : Nat) (hn : 6 ≤ n) (bit : Int) (w : World) (b64 : -9223372036854775808 ≤ bit ∧ bit ≤ 9223372036854775807) :
    CallsIn Fence.wide n Try.prog 22 #[.int .i64 bit] w fun e W' => e = .returned (.int .i64 ((allL bit).length : Int)) ∧ Below w.heap.size w W' := by
  have H64 := Aside0.mk b64
  clear b64
  refine callsIn_of_wp_marks Try.func22 rfl trivial ?_ rfl
  simp only [Try.ntmps22, List.size_toArray, List.length_cons, List.length_nil, Nat.reduceAdd, Nat.reduceSub, Array.replicate_succ, Array.replicate_zero, List.push_toArray, List.append_toArray, List.nil_append, List.cons_append]
  gi_wp2
  refine ⟨trivial, (fun h => by cases h), ?_⟩
  refine (all_in Fence.wide _ trivial rfl _ _).mono ?_
  rintro e w' ⟨rfl, rfl⟩
  gi_wp2
  have hb1 := blk_new (w.alloc (.cells #[.int .i64 0] 3)) (.cells #[.int .i64 bit] 2)
  have hc1 := blk_below (blk_new w (.cells #[.int .i64 0] 3)) (below_alloc (Below.refl _ _) (.cells #[.int .i64 bit] 2))
  rw [World.size_alloc] at hb1
  have B1 : Below w.heap.size w ((w.alloc (.cells #[.int .i64 0] 3)).alloc (.cells #[.int .i64 bit] 2)) := below_alloc (below_alloc (Below.refl _ _) _) _
  have hs1 : ((w.alloc (.cells #[.int .i64 0] 3)).alloc (.cells #[.int .i64 bit] 2)).heap.size = w.heap.size + 2 := by simp
  generalize (w.alloc (.cells #[.int .i64 0] 3)).alloc (.cells #[.int .i64 bit] 2) = w1 at hb1 hc1 B1 hs1 ⊢
  refine wpIn_rangeFunc_R rfl (by omega) (gf := 43) (lb := #[.pointer (some ⟨w.heap.size + 1, 0, none⟩)]) rfl trivial (enters_of Try.func43 (by kernel_rfl) rfl)
    (all1_seq _ (w.heap.size + 1) bit w1 (by omega) H64.out hb1) (Below.refl _ _) (fun k e => by subst e; omega) (fun _ => rfl)
    (fun g pre W => g = none ∧ W.heap[w.heap.size]? = some (.cells #[.int .i64 (pre.length : Int)] 3 (0, 0)) ∧ Below w.heap.size w W) ?hI ?hIc none (fun _ _ h => by cases h) ⟨rfl, hc1, B1⟩
    (fun mm g pre x a' W => a' = { tmps := #[.int .i64 bit, undef, .int .i64 0, .pointer (some ⟨w.heap.size, 0, none⟩), .int .i64 bit, .func (.func 43) #[] #[.pointer (some ⟨w.heap.size + 1, 0, none⟩)], x.v, undef, undef, undef], defers := [] } ∧ g = none ∧ W.heap[w.heap.size]? = some (.cells #[.int .i64 (pre.length : Int)] 3 (0, 0)) ∧ Below w.heap.size w W) ?hAx ?hAxc ?assign ?body ?done
  case hI =>
    rintro g pre A B row ⟨rfl, hc, hb⟩ hg hr
    exact ⟨rfl, grown_blk hg (fun r e => (hr r e).2) hc, below_from hb hg (Nat.le_refl _) (fun r e => by have := (hr r e).1; omega)⟩
  case hIc =>
    rintro g pre A ⟨rfl, _⟩ k e
    cases e
  case hAx =>
    rintro mm g pre x a' _ A B row ⟨ha, rfl, hc, hb⟩ hg hr
    exact ⟨ha, rfl, grown_blk hg (fun r e => (hr r e).2) hc, below_from hb hg (Nat.le_refl _) (fun r e => by have := (hr r e).1; omega)⟩
  case hAxc =>
    rintro mm g pre x a' A ⟨_, rfl, _⟩ k e
    cases e
  case assign =>
    rintro l g pre x W K hW ⟨rfl, hc, hb⟩ hK
    gi_wp2
    exact hK _ _ (ChS.refl _ _) (by first | exact ⟨rfl, rfl, hc, hb⟩ | exact ⟨rfl, trivial, hc, hb⟩ | exact ⟨rfl, hc, hb⟩)
  case body =>
    rintro l mm g pre x a' W hm hmW ⟨rfl, rfl, hc, hb⟩ hlen
    have c0 : W.cell? ⟨w.heap.size, 0, none⟩ = some (.int .i64 (pre.length : Int)) := (blk_cell hc 0).trans rfl
    have f0 := blk_frozen hc 0
    have w1' : wrap64 ((pre.length : Int) + 1) = (pre.length : Int) + 1 := wr_small _ (by omega) (by omega)
    gi_wp2
    refine ⟨⟨none, ⟨rfl, ?_, hb.setCell (p := ⟨w.heap.size, 0, none⟩) (Nat.le_refl _) _⟩, .inl rfl⟩, (ChS.refl _ W).grown (grownBy_setCell' W w.heap.size _) (fun k e _ => by cases e; exact .inl (.inl ⟨by omega, by omega⟩))⟩
    have := blk_set hc 0 (.int .i64 ((pre.length : Int) + 1))
    rw [List.length_append]
    simpa using this
  case done =>
    rintro D g xs W hD rfl ⟨rfl, hc, hb⟩ hK
    have c0 : W.cell? ⟨w.heap.size, 0, none⟩ = some (.int .i64 ((allL bit).length : Int)) := (blk_cell hc 0).trans rfl
    gi_wp2
    refine ⟨by simp, .inl ⟨_, _, rfl, run_takeDeferred hK, ?_⟩⟩
    exact ⟨_, results_tmp rfl _ _ _, rfl, below_from hb (grownBy_putObj' W D _) (Nat.le_refl _) (fun r e => by cases e; omega)⟩
theorem All_calls (bit : Int) (w : World) (b64 : -9223372036854775808 ≤ bit ∧ bit ≤ 9223372036854775807) :
    Calls Try.prog 22 #[.int .i64 bit] w fun e W' => e = .returned (.int .i64 ((allL bit).length : Int)) ∧ Below w.heap.size w W' := callsIn_wide.1 (All_in 6 (Nat.le_refl _) bit w b64)
def tmCells (t : Tm) : List Value := [.int .i64 t.k, .int .i64 t.p, .int .i64 t.a, .int .i64 t.b, .int .i64 t.j]
def rowCells (l : List Tm) : List Value := l.flatMap tmCells
theorem rowCells_snoc (l : List Tm) (t : Tm) : rowCells (l ++ [t]) = rowCells l ++ tmCells t := by simp [rowCells]
theorem info39 : (Try.prog.info? 39).map (fun i => (i.zero, i.size, i.bytes)) = some (some (.agg #[.int .i64 0, .int .i64 0, .int .i64 0, .int .i64 0, .int .i64 0]), 5, 40) := by kernel_rfl
theorem new5 (W : World) (t : Tm) (j : Nat) (u : Value) (h : (tmCells t)[j]? = some u) : (W.alloc (.cells #[.int .i64 t.k, .int .i64 t.p, .int .i64 t.a, .int .i64 t.b, .int .i64 t.j] 39)).cell? ((⟨W.heap.size, 0, none⟩ : Addr).add j) = some u := by
  have hb := blk_new W (.cells #[.int .i64 t.k, .int .i64 t.p, .int .i64 t.a, .int .i64 t.b, .int .i64 t.j] 39)
  have e : (⟨W.heap.size, 0, none⟩ : Addr).add j = ⟨W.heap.size, j, none⟩ := by
    unfold Addr.add
    by_cases z : j = 0 <;> simp [z]
  rw [e, blk_cell hb j]
  have := h
  unfold tmCells at this
  simpa using this
structure CI (w : World) (sb : Nat) (g : Option Nat) (pre : List Tm) (W : World) (v : Value) : Prop where
  hg : g = v.ownBlock
  hs : W.heap[sb]? = some (.cells #[v] 44 (0, 0))
  ho : W.ownsRow w.heap.size 39 5 v pre.length (rowCells pre)
  hb : Below w.heap.size w W
theorem own_blk {W : World} {base e size n : Nat} {v : Value} {xs : List Value} (h : W.ownsRow base e size v n xs) {k : Nat} (hk : v.ownBlock = some k) : ∃ cur, W.heap[k]? = some (.cells cur e (0, 0)) := own_typed h k hk
theorem CI.ne {w W : World} {sb k : Nat} {t : TypeId} {cs : Array Value} {g : Option Nat} {pre : List Tm} {v : Value} (h : CI w sb g pre W v) (hk : W.heap[k]? = some (.cells cs t (0, 0))) (ht : t ≠ 39) : g ≠ some k := fun e => by
  rw [h.hg] at e
  obtain ⟨cur, hc⟩ := own_blk h.ho e
  rw [hk] at hc
  injection hc with hc
  injection hc with _ hc
  exact ht hc
theorem CI.own {w : World} {sb : Nat} {B : Nat} (hB : w.heap.size ≤ B) (g : Option Nat) (v : Value) : OwnFrom B (fun pre W => CI w sb g pre W v) := fun s A C row hs hg hr => by
  refine ⟨hs.hg, grown_blk hg (fun r e => (hr r e).2) hs.hs, hs.ho.kept hg ?_, below_from hs.hb hg (Nat.le_refl _) (fun r e => by have := (hr r e).1; omega)⟩
  cases e : v.ownBlock with
  | none => exact .inl rfl
  | some k =>
    refine .inr fun e2 => ?_
    obtain ⟨o, ho, hc⟩ := (hr k e2.symm).2
    obtain ⟨cur, hcur⟩ := own_blk hs.ho e
    rw [hcur] at ho
    cases ho
    cases hc
theorem own_slice {W : World} {base e size n : Nat} {v : Value} {xs : List Value} (h : W.ownsRow base e size v n xs) : ∃ A c, v = .slice A n c := by
  rcases h.2 with ⟨rfl, rfl⟩ | ⟨g, cap, cur, rfl, _⟩
  · exact ⟨none, 0, rfl⟩
  · exact ⟨_, _, rfl⟩
set_option maxRecDepth 100000 in
set_option maxHeartbeats 8000000 in
theorem AppendSeq_in (n : Nat) (hn : 6 ≤ n) (Bb : Nat) (bit : Int) (w : World) (b64 : -9223372036854775808 ≤ bit ∧ bit ≤ 9223372036854775807) (hB : w.heap[Bb]? = some (.cells #[.int .i64 bit] 2 (0, 0))) :
    CallsIn Fence.wide n Try.prog 42 #[.slice none 0 0, .func (.func 43) #[] #[.pointer (some ⟨Bb, 0, none⟩)]] w fun e W' => ∃ v, e = .returned v ∧ W'.ownsRow w.heap.size 39 5 v (allL bit).length (rowCells (allL bit)) ∧ Below w.heap.size w W' := by
  have H64 := Aside0.mk b64
  have hBlt := blk_lt hB
  have hb1 := blk_below hB (below_alloc (Below.refl _ _) (.cells #[.slice none 0 0] 44))
  have hc1 := blk_new w (.cells #[.slice none 0 0] 44)
  have B1 : Below w.heap.size w (w.alloc (.cells #[.slice none 0 0] 44)) := below_alloc (Below.refl _ _) _
  have hs1 : (w.alloc (.cells #[.slice none 0 0] 44)).heap.size = w.heap.size + 1 := by simp
  obtain ⟨i0, hi, hz0, hz1, hz2⟩ := info_parts info39
  have INF := Aside0.mk (And.intro hi (And.intro hz0 (And.intro hz1 hz2)))
  have hu39 := Try.underlying39
  have hu23 := Try.underlying23
  clear b64 hB hi hz0 hz1 hz2
  refine callsIn_of_wp_marks Try.func42 rfl trivial ?_ rfl
  simp only [Try.ntmps42, List.size_toArray, List.length_cons, List.length_nil, Nat.reduceAdd, Nat.reduceSub, Array.replicate_succ, Array.replicate_zero, List.push_toArray, List.append_toArray, List.nil_append, List.cons_append]
  gi_wp2
  generalize w.alloc (.cells #[.slice none 0 0] 44) = w1 at hb1 hc1 B1 hs1 ⊢
  have BL := Aside0.mk hBlt
  refine wpIn_rangeFunc_R rfl (by omega) (gf := 43) (lb := #[.pointer (some ⟨Bb, 0, none⟩)]) rfl trivial (enters_of Try.func43 (by kernel_rfl) rfl)
    (all1_seq _ Bb bit w1 (by omega) H64.out hb1) (Below.refl _ _) (fun k e => by subst e; omega) (fun _ => rfl)
    (fun g pre W => ∃ v, CI w w.heap.size g pre W v) ?hI ?hIc none (fun _ _ h => by cases h) ⟨_, rfl, hc1, World.ownsRow_nil _ _ _ _, B1⟩
    (fun mm g pre x a' W => ∃ Bt v, a' = { tmps := #[.slice none 0 0, .func (.func 43) #[] #[.pointer (some ⟨Bb, 0, none⟩)], .pointer (some ⟨w.heap.size, 0, none⟩), undef, .slice none 0 0, .pointer (some ⟨Bt, 0, none⟩), .func (.func 43) #[] #[.pointer (some ⟨Bb, 0, none⟩)], x.v, undef, undef, undef, undef, undef], defers := [] } ∧ W.heap[Bt]? = some (.cells #[.int .i64 x.k, .int .i64 x.p, .int .i64 x.a, .int .i64 x.b, .int .i64 x.j] 39 (0, 0)) ∧ CI w w.heap.size g pre W v) ?hAx ?hAxc ?assign ?body ?done
  case hI =>
    rintro g pre A B row ⟨v, h⟩ hg hr
    exact ⟨v, CI.own (B := w1.heap.size) (by omega) g v pre A B row h hg hr⟩
  case hIc =>
    rintro g pre A ⟨v, h⟩ k e
    rw [h.hg] at e
    obtain ⟨cur, hc⟩ := own_blk h.ho e
    exact ⟨_, hc, rfl⟩
  case hAx =>
    rintro mm g pre x a' _ A B row ⟨Bt, v, ha, hbt, h⟩ hg hr
    exact ⟨Bt, v, ha, grown_blk hg (fun r e => (hr r e).2) hbt, CI.own (B := w1.heap.size) (by omega) g v pre A B row h hg hr⟩
  case hAxc =>
    rintro mm g pre x a' A ⟨Bt, v, _, _, h⟩ k e
    rw [h.hg] at e
    obtain ⟨cur, hc⟩ := own_blk h.ho e
    exact ⟨_, hc, rfl⟩
  case assign =>
    rintro l g pre ⟨xk, xp, xa, xb, xj⟩ W K hW ⟨v, h⟩ hK
    dsimp only [Tm.v] at hK ⊢
    gi_wp2
    have hB := below_alloc (Below.refl W.heap.size W) (.cells #[.int .i64 xk, .int .i64 xp, .int .i64 xa, .int .i64 xb, .int .i64 xj] 39)
    exact hK _ _ (ChS.of hB _) ⟨W.heap.size, v, rfl, blk_new _ _, CI.own (Nat.le_refl _) g v pre W _ none h (grown_of_below hB none) (fun r e => by cases e)⟩
  case body =>
    rintro l mm g pre ⟨xk, xp, xa, xb, xj⟩ a' W hm hmW ⟨Bt, v, rfl, hbt, h⟩ hlen
    obtain ⟨A, c, rfl⟩ := own_slice h.ho
    have c0 : W.cell? ⟨w.heap.size, 0, none⟩ = some (.slice A pre.length c) := (blk_cell h.hs 0).trans rfl
    have f0 := blk_frozen h.hs 0
    obtain ⟨g0, g1, g2, g3, g4⟩ := tm_cells (t := ⟨xk, xp, xa, xb, xj⟩) hbt
    dsimp only [Tm.v]
    have hsb : W.heap.size = W.heap.size := rfl
    have H := Aside0.mk h
    have hnsb : g ≠ some w.heap.size := h.ne h.hs (by decide)
    rw [h.hg] at hnsb
    have NS := Aside0.mk hnsb
    have LN := Aside0.mk (And.intro hlen (And.intro hm hmW))
    clear h hbt hnsb hlen hm hmW hsb hb1 hc1 hBlt B1
    gi_wp2_with (gi_at_builtin; refine wpListIn_append_own_at _ rfl _ _ 44 rfl w.heap.size 39 i0 (.agg #[.int .i64 0, .int .i64 0, .int .i64 0, .int .i64 0, .int .i64 0]) 5 40 Try.underlying44 INF.out.1 INF.out.2.1 INF.out.2.2.1 INF.out.2.2.2 rfl (by decide) _ pre.length (rowCells pre) rfl (H.out.ho.alloc _) ⟨W.heap.size, 0, none⟩ 1 1 (tmCells ⟨xk, xp, xa, xb, xj⟩) rfl rfl (new5 W ⟨xk, xp, xa, xb, xj⟩) (by simp [tmCells, Value.oneCell']) (by have := LN.out.1; simp only [maxLen]; omega) (by have := LN.out.1; omega) (by have := H.out.hb.size; rw [World.size_alloc]; omega) ?_; intro v' w2 hown' hgrow _ hat; obtain ⟨g', cap', rfl⟩ := ownsRow_succ hown'; have hs2 := (hgrow.block w.heap.size (by have := blk_lt H.out.hs; rw [World.size_alloc]; omega) (fun e => NS.out e.symm)).trans (blk_below H.out.hs (below_alloc (Below.refl _ _) _)); have d0 := (blk_cell hs2 0).trans rfl; have df := blk_frozen hs2 0; have PT := Aside0.mk (And.intro hown' (And.intro hgrow (And.intro hat hs2))); clear hown' hgrow hat hs2)
    obtain ⟨hown', hgrow, hat, hs2⟩ := PT.out
    have hA := below_alloc (Below.refl W.heap.size W) (.cells #[.int .i64 xk, .int .i64 xp, .int .i64 xa, .int .i64 xb, .int .i64 xj] 39)
    have nsb2 : (some g' : Option Nat) ≠ some w.heap.size := fun e => by
      obtain ⟨cur, hc⟩ := own_blk hown' (k := g') rfl
      cases e
      rw [hs2] at hc
      injection hc with hc
      injection hc with _ hc
      cases hc
    have hset : (w2.setCell ⟨w.heap.size, 0, none⟩ (.slice (some ⟨g', 0, none⟩) (pre.length + 1) cap')).heap[w.heap.size]? = some (.cells #[.slice (some ⟨g', 0, none⟩) (pre.length + 1) cap'] 44 (0, 0)) := by
      have := blk_set hs2 0 (.slice (some ⟨g', 0, none⟩) (pre.length + 1) cap')
      simpa using this
    have ownle : ∀ r, (Value.slice A pre.length c).ownBlock = some r → w.heap.size ≤ r := fun r e => own_base H.out.ho r e
    refine ⟨⟨some g', ⟨_, rfl, hset, ?_, ?_⟩, ?_⟩, ?_⟩
    · rw [List.length_append, rowCells_snoc]
      exact hown'.kept (grownBy_setCell' w2 w.heap.size _) (.inr nsb2)
    · exact (below_from (H.out.hb.alloc H.out.hb.size _) hgrow (Nat.le_refl _) ownle).setCell (p := ⟨w.heap.size, 0, none⟩) (Nat.le_refl _) _
    · rcases hat with e | e
      · exact .inl (by rw [H.out.hg]; exact e)
      · refine .inr ⟨g', rfl, ?_⟩
        have e2 : g' = (W.alloc (.cells #[.int .i64 xk, .int .i64 xp, .int .i64 xa, .int .i64 xb, .int .i64 xj] 39)).heap.size := by simpa [Value.ownBlock] using e
        rw [e2, World.size_alloc]
        have := LN.out
        omega
    · have c1 : ChS (fun k => RoundS (w.heap.size + 1) (fun k => k = Bb) g k ∨ mm ≤ k) W w2 := (ChS.of hA _).grown hgrow (fun k e _ => .inl (.inr (by rw [H.out.hg]; exact e)))
      exact c1.grown (grownBy_setCell' w2 w.heap.size _) (fun k e _ => by cases e; exact .inl (.inl ⟨by omega, fun e2 => by have := BL.out; omega⟩))
  case done =>
    rintro D g xs W hD rfl ⟨v, h⟩ hK
    obtain ⟨A, c, rfl⟩ := own_slice h.ho
    have c0 : W.cell? ⟨w.heap.size, 0, none⟩ = some (.slice A (allL bit).length c) := (blk_cell h.hs 0).trans rfl
    gi_wp2
    refine ⟨by simp, .inl ⟨_, _, rfl, run_takeDeferred hK, ?_⟩⟩
    exact ⟨_, results_tmp rfl _ _ _, _, rfl, ownsRow_putObj h.ho _ hK rfl, below_from h.hb (grownBy_putObj' W D _) (Nat.le_refl _) (fun r e => by cases e; omega)⟩
set_option maxRecDepth 100000 in
theorem Collect_in (n : Nat) (hn : 8 ≤ n) (Bb : Nat) (bit : Int) (w : World) (b64 : -9223372036854775808 ≤ bit ∧ bit ≤ 9223372036854775807) (hB : w.heap[Bb]? = some (.cells #[.int .i64 bit] 2 (0, 0))) :
    CallsIn Fence.wide n Try.prog 33 #[.func (.func 43) #[] #[.pointer (some ⟨Bb, 0, none⟩)]] w fun e W' => ∃ v, e = .returned v ∧ W'.ownsRow w.heap.size 39 5 v (allL bit).length (rowCells (allL bit)) ∧ Below w.heap.size w W' := by
  refine callsIn_of_wp Try.func33 rfl trivial ?_ rfl
  simp only [Try.ntmps33, List.size_toArray, List.length_cons, List.length_nil, Nat.reduceAdd, Nat.reduceSub, Array.replicate_succ, Array.replicate_zero, List.push_toArray, List.append_toArray, List.nil_append, List.cons_append]
  gi_wp2
  refine ⟨trivial, (fun h => by cases h), ?_⟩
  refine (AppendSeq_in _ (by omega) Bb bit w b64 hB).mono ?_
  rintro e w' ⟨v, rfl, ho, hb⟩
  obtain ⟨A, c, rfl⟩ := own_slice ho
  gi_wp2
  go_ret
  exact ⟨_, rfl, ho, hb⟩
end Go.Proofs.Ytgekhkigeanajaa.P
