/- Where a signal's bits stand, collected by the library's functions. Conditions: the ranges that each lemma names. -/
import Derived.Test.YtepeihlhokpjjaaSigIter
import Derived.Maps.OwnIn
import Derived.WalkSpells
namespace Go.Proofs.Ytepeihlhokpjjaa.P
open Go.RowKit Go.Proofs.YtepeihlhokpjjaaW.PrintWords Go.Proofs.YtepeihlhokpjjaaW.PrintLast Go.Proofs.YtepeihlhokpjjaaW.PrintMore
attribute [local go_sem] Oper.semAt_some
set_option linter.unusedVariables false
set_option linter.unusedSimpArgs false
theorem grown_blk {A B : World} {row : Option Nat} {k : Nat} {cs : Array Value} {t : TypeId} {f : Nat × Nat} (hg : A.grownBy B row) (hr : ∀ r, row = some r → ∃ o : Obj, A.heap[r]? = some o ∧ o.isCells = false) (h : A.heap[k]? = some (.cells cs t f)) : B.heap[k]? = some (.cells cs t f) :=
  (hg.block k (Array.getElem?_eq_some_iff.1 h).1 (fun e => by
    obtain ⟨o, ho, hc⟩ := hr k e.symm
    rw [h] at ho
    cases ho
    cases hc)).trans h
theorem below_from {B : Nat} {a b c : World} {row : Option Nat} (h : Below B a b) (hg : b.grownBy c row) (hB : B ≤ a.heap.size) (hr : ∀ r, row = some r → B ≤ r) : Below B a c := h.grown hg (Nat.le_trans hB h.size) hr
def ints (l : List Int) : List Value := l.map (fun x => .int .i64 x)
theorem ints_snoc (l : List Int) (x : Int) : ints (l ++ [x]) = ints l ++ [.int .i64 x] := by simp [ints]
theorem sinfo3 : (Try.prog.info? 3).map (fun i => (i.zero, i.size, i.bytes)) = some (some (.int .i64 0), 1, 8) := by kernel_rfl
theorem new1 (W : World) (x : Int) (j : Nat) (u : Value) (h : [Value.int .i64 x][j]? = some u) : (W.alloc (.cells #[.int .i64 x] 3)).cell? ((⟨W.heap.size, 0, none⟩ : Addr).add j) = some u := by
  have hb := blk_new W (.cells #[.int .i64 x] 3)
  have e : (⟨W.heap.size, 0, none⟩ : Addr).add j = ⟨W.heap.size, j, none⟩ := by
    unfold Addr.add
    by_cases z : j = 0 <;> simp [z]
  rw [e, blk_cell hb j]
  simpa using h
structure CI (w : World) (sb : Nat) (g : Option Nat) (pre : List Int) (W : World) (v : Value) : Prop where
  hg : g = v.ownBlock
  hs : W.heap[sb]? = some (.cells #[v] 35 (0, 0))
  ho : W.ownsRow w.heap.size 3 1 v pre.length (ints pre)
  hb : Below w.heap.size w W
theorem own_blk {W : World} {base e size n : Nat} {v : Value} {xs : List Value} (h : W.ownsRow base e size v n xs) {k : Nat} (hk : v.ownBlock = some k) : ∃ cur, W.heap[k]? = some (.cells cur e (0, 0)) := own_typed h k hk
theorem CI.ne {w W : World} {sb k : Nat} {t : TypeId} {cs : Array Value} {g : Option Nat} {pre : List Int} {v : Value} (h : CI w sb g pre W v) (hk : W.heap[k]? = some (.cells cs t (0, 0))) (ht : t ≠ 3) : g ≠ some k := fun e => by
  rw [h.hg] at e
  obtain ⟨cur, hc⟩ := own_blk h.ho e
  rw [hk] at hc
  injection hc with hc
  injection hc with _ hc
  exact ht hc
theorem CI.own {w : World} {sb : Nat} {B : Nat} (hB : w.heap.size ≤ B) (g : Option Nat) (v : Value) : OwnFrom B (fun pre W => CI w sb g pre W v) := fun s A C row hs hg hr => by
  refine ⟨hs.hg, grown_blk hg (fun r e => (hr r e).2) hs.hs, hs.ho.kept hg ?_, below_from hs.hb hg (Nat.le_refl _) (fun r e => by have := (hr r e).1; omega)⟩
  cases e : v.ownBlock with
  | none => exact .inl rfl
  | some k =>
    refine .inr fun e2 => ?_
    obtain ⟨o, ho, hc⟩ := (hr k e2.symm).2
    obtain ⟨cur, hcur⟩ := own_blk hs.ho e
    rw [hcur] at ho
    cases ho
    cases hc
theorem own_slice {W : World} {base e size n : Nat} {v : Value} {xs : List Value} (h : W.ownsRow base e size v n xs) : ∃ A c, v = .slice A n c := by
  rcases h.2 with ⟨rfl, rfl⟩ | ⟨g, cap, cur, rfl, _⟩
  · exact ⟨none, 0, rfl⟩
  · exact ⟨_, _, rfl⟩
set_option maxRecDepth 100000 in
set_option maxHeartbeats 8000000 in
theorem AppendSeq_in (n : Nat) (hn : 6 ≤ n) (Bb : Nat) (s : Sg) (w : World) (hB : w.heap[Bb]? = some s.cs) :
    CallsIn Fence.wide n Try.prog 56 #[.slice none 0 0, .func (.func 57) #[] #[.pointer (some ⟨Bb, 0, none⟩)]] w fun e W' => ∃ v, e = .returned v ∧ W'.ownsRow w.heap.size 3 1 v (walkL s).length (ints (walkL s)) ∧ Below w.heap.size w W' := by
  have hBlt := blk_lt hB
  have hb1 := blk_below hB (below_alloc (Below.refl _ _) (.cells #[.slice none 0 0] 35))
  have hc1 := blk_new w (.cells #[.slice none 0 0] 35)
  have B1 : Below w.heap.size w (w.alloc (.cells #[.slice none 0 0] 35)) := below_alloc (Below.refl _ _) _
  have hs1 : (w.alloc (.cells #[.slice none 0 0] 35)).heap.size = w.heap.size + 1 := by simp
  obtain ⟨i0, hi, hz0, hz1, hz2⟩ := info_parts sinfo3
  have INF := Aside0.mk (And.intro hi (And.intro hz0 (And.intro hz1 hz2)))
  have hu23 := Try.underlying23
  clear hB hi hz0 hz1 hz2
  refine callsIn_of_wp_marks Try.func56 rfl trivial ?_ rfl
  simp only [Try.ntmps56, List.size_toArray, List.length_cons, List.length_nil, Nat.reduceAdd, Nat.reduceSub, Array.replicate_succ, Array.replicate_zero, List.push_toArray, List.append_toArray, List.nil_append, List.cons_append]
  gi_wp2
  generalize w.alloc (.cells #[.slice none 0 0] 35) = w1 at hb1 hc1 B1 hs1 ⊢
  have BL := Aside0.mk hBlt
  refine wpIn_rangeFunc_R rfl (by omega) (gf := 57) (lb := #[.pointer (some ⟨Bb, 0, none⟩)]) rfl trivial (enters_of Try.func57 (by kernel_rfl) rfl)
    (walk1_seq _ Bb s w1 hb1) (Below.refl _ _) (fun k e => by subst e; omega) (fun _ => rfl)
    (fun g pre W => ∃ v, CI w w.heap.size g pre W v) ?hI ?hIc none (fun _ _ h => by cases h) ⟨_, rfl, hc1, World.ownsRow_nil _ _ _ _, B1⟩
    (fun mm g pre x a' W => ∃ v, a' = { tmps := #[.slice none 0 0, .func (.func 57) #[] #[.pointer (some ⟨Bb, 0, none⟩)], .pointer (some ⟨w.heap.size, 0, none⟩), undef, .slice none 0 0, .int .i64 x, .func (.func 57) #[] #[.pointer (some ⟨Bb, 0, none⟩)], .int .i64 x, undef, undef, undef, undef, undef], defers := [] } ∧ CI w w.heap.size g pre W v) ?hAx ?hAxc ?assign ?body ?done
  case hI =>
    rintro g pre A B row ⟨v, h⟩ hg hr
    exact ⟨v, CI.own (B := w1.heap.size) (by omega) g v pre A B row h hg hr⟩
  case hIc =>
    rintro g pre A ⟨v, h⟩ k e
    rw [h.hg] at e
    obtain ⟨cur, hc⟩ := own_blk h.ho e
    exact ⟨_, hc, rfl⟩
  case hAx =>
    rintro mm g pre x a' _ A B row ⟨v, ha, h⟩ hg hr
    exact ⟨v, ha, CI.own (B := w1.heap.size) (by omega) g v pre A B row h hg hr⟩
  case hAxc =>
    rintro mm g pre x a' A ⟨v, _, h⟩ k e
    rw [h.hg] at e
    obtain ⟨cur, hc⟩ := own_blk h.ho e
    exact ⟨_, hc, rfl⟩
  case assign =>
    rintro l g pre x W K hW ⟨v, h⟩ hK
    gi_wp2
    exact hK _ _ (ChS.refl _ _) ⟨v, rfl, h⟩
  case body =>
    rintro l mm g pre x a' W hm hmW ⟨v, rfl, h⟩ hlen
    obtain ⟨A, c, rfl⟩ := own_slice h.ho
    have c0 : W.cell? ⟨w.heap.size, 0, none⟩ = some (.slice A pre.length c) := (blk_cell h.hs 0).trans rfl
    have f0 := blk_frozen h.hs 0
    have hsb : W.heap.size = W.heap.size := rfl
    have H := Aside0.mk h
    have hnsb : g ≠ some w.heap.size := h.ne h.hs (by decide)
    rw [h.hg] at hnsb
    have NS := Aside0.mk hnsb
    have LN := Aside0.mk (And.intro hlen (And.intro hm hmW))
    clear h hnsb hlen hm hmW hsb hb1 hc1 hBlt B1
    gi_wp2_with (gi_at_builtin; refine wpListIn_append_own_at _ rfl _ _ 35 rfl w.heap.size 3 i0 (.int .i64 0) 1 8 Try.underlying35 INF.out.1 INF.out.2.1 INF.out.2.2.1 INF.out.2.2.2 rfl (by decide) _ pre.length (ints pre) rfl (H.out.ho.alloc _) ⟨W.heap.size, 0, none⟩ 1 1 [.int .i64 x] rfl rfl (new1 W x) (by simp [Value.oneCell']) (by have := LN.out.1; simp only [maxLen]; omega) (by have := LN.out.1; omega) (by have := H.out.hb.size; rw [World.size_alloc]; omega) ?_; intro v' w2 hown' hgrow _ hat; obtain ⟨g', cap', rfl⟩ := ownsRow_succ hown'; have hs2 := (hgrow.block w.heap.size (by have := blk_lt H.out.hs; rw [World.size_alloc]; omega) (fun e => NS.out e.symm)).trans (blk_below H.out.hs (below_alloc (Below.refl _ _) _)); have d0 := (blk_cell hs2 0).trans rfl; have df := blk_frozen hs2 0; have PT := Aside0.mk (And.intro hown' (And.intro hgrow (And.intro hat hs2))); clear hown' hgrow hat hs2)
    obtain ⟨hown', hgrow, hat, hs2⟩ := PT.out
    have hA := below_alloc (Below.refl W.heap.size W) (.cells #[.int .i64 x] 3)
    have nsb2 : (some g' : Option Nat) ≠ some w.heap.size := fun e => by
      obtain ⟨cur, hc⟩ := own_blk hown' (k := g') rfl
      cases e
      rw [hs2] at hc
      injection hc with hc
      injection hc with _ hc
      cases hc
    have hset : (w2.setCell ⟨w.heap.size, 0, none⟩ (.slice (some ⟨g', 0, none⟩) (pre.length + 1) cap')).heap[w.heap.size]? = some (.cells #[.slice (some ⟨g', 0, none⟩) (pre.length + 1) cap'] 35 (0, 0)) := by
      have := blk_set hs2 0 (.slice (some ⟨g', 0, none⟩) (pre.length + 1) cap')
      simpa using this
    have ownle : ∀ r, (Value.slice A pre.length c).ownBlock = some r → w.heap.size ≤ r := fun r e => own_base H.out.ho r e
    refine ⟨⟨some g', ⟨_, rfl, hset, ?_, ?_⟩, ?_⟩, ?_⟩
    · rw [List.length_append, ints_snoc]
      exact hown'.kept (grownBy_setCell' w2 w.heap.size _) (.inr nsb2)
    · exact (below_from (H.out.hb.alloc H.out.hb.size _) hgrow (Nat.le_refl _) ownle).setCell (p := ⟨w.heap.size, 0, none⟩) (Nat.le_refl _) _
    · rcases hat with e | e
      · exact .inl (by rw [H.out.hg]; exact e)
      · refine .inr ⟨g', rfl, ?_⟩
        have e2 : g' = (W.alloc (.cells #[.int .i64 x] 3)).heap.size := by simpa [Value.ownBlock] using e
        rw [e2, World.size_alloc]
        have := LN.out
        omega
    · have c1 : ChS (fun k => RoundS w1.heap.size (fun k => k = Bb) g k ∨ mm ≤ k) W w2 := (ChS.of hA _).grown hgrow (fun k e _ => .inl (.inr (by rw [H.out.hg]; exact e)))
      exact c1.grown (grownBy_setCell' w2 w.heap.size _) (fun k e _ => by cases e; exact .inl (.inl ⟨by omega, fun e2 => by have := BL.out; omega⟩))
  case done =>
    rintro D g xs W hD rfl ⟨v, h⟩ hK
    obtain ⟨A, c, rfl⟩ := own_slice h.ho
    have c0 : W.cell? ⟨w.heap.size, 0, none⟩ = some (.slice A (walkL s).length c) := (blk_cell h.hs 0).trans rfl
    gi_wp2
    refine ⟨by simp, .inl ⟨_, _, rfl, run_takeDeferred hK, ?_⟩⟩
    exact ⟨_, results_tmp rfl _ _ _, _, rfl, ownsRow_putObj h.ho _ hK rfl, below_from h.hb (grownBy_putObj' W D _) (Nat.le_refl _) (fun r e => by cases e; omega)⟩
set_option maxRecDepth 100000 in
theorem Collect_in (n : Nat) (hn : 8 ≤ n) (Bb : Nat) (s : Sg) (w : World) (hB : w.heap[Bb]? = some s.cs) :
    CallsIn Fence.wide n Try.prog 42 #[.func (.func 57) #[] #[.pointer (some ⟨Bb, 0, none⟩)]] w fun e W' => ∃ v, e = .returned v ∧ W'.ownsRow w.heap.size 3 1 v (walkL s).length (ints (walkL s)) ∧ Below w.heap.size w W' := by
  refine callsIn_of_wp Try.func42 rfl trivial ?_ rfl
  simp only [Try.ntmps42, List.size_toArray, List.length_cons, List.length_nil, Nat.reduceAdd, Nat.reduceSub, Array.replicate_succ, Array.replicate_zero, List.push_toArray, List.append_toArray, List.nil_append, List.cons_append]
  gi_wp2
  refine ⟨trivial, (fun h => by cases h), ?_⟩
  refine (AppendSeq_in _ (by omega) Bb s w hB).mono ?_
  rintro e w' ⟨v, rfl, ho, hb⟩
  obtain ⟨A, c, rfl⟩ := own_slice ho
  gi_wp2
  go_ret
  exact ⟨_, rfl, ho, hb⟩
theorem Collect_calls (Bb : Nat) (s : Sg) (w : World) (hB : w.heap[Bb]? = some s.cs) :
    Calls Try.prog 42 #[.func (.func 57) #[] #[.pointer (some ⟨Bb, 0, none⟩)]] w fun e W' => ∃ v, e = .returned v ∧ W'.ownsRow w.heap.size 3 1 v (walkL s).length (ints (walkL s)) ∧ Below w.heap.size w W' := callsIn_wide.1 (Collect_in 8 (Nat.le_refl _) Bb s w hB)
theorem walk_calls (s : Sg) (w : World) : Calls Try.prog 43 #[s.g] w fun e w' => e = .returned (.func (.func 57) #[] #[.pointer (some ⟨w.heap.size, 0, none⟩)]) ∧ w' = w.alloc s.cs := callsIn_wide.1 (walk_in Fence.wide 8 trivial rfl s w)
end Go.Proofs.Ytepeihlhokpjjaa.P
