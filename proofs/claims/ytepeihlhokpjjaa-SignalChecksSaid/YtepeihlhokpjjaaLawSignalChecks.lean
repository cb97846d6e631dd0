/- The statement of the law 'SignalChecks': its row, out of the walk that is proved beside it: for every input the law answers true, and its arguments read as before. No condition of its own. -/
import Derived.Test.YtepeihlhokpjjaaRows
import Derived.Test.YtepeihlhokpjjaaSigChecksWalk
import Derived.WalkKit
import Derived.ProofKit
import Derived.OpenShut
import Derived.ShutString
import Derived.ChangeOld
import Derived.Below
import Derived.SizedLaws
import Derived.Deep.Slices
import Derived.Deep.Fields
import Derived.Test.YtepeihlhokpjjaaWSized
namespace Go.Proofs.Ytepeihlhokpjjaa.signalChecks
open Go.ChangeShapes Go.WideShapes Go.ChangeAt Go.RowKit
open Go.ChangeMaps (open_string shut_string)
set_option linter.unusedVariables false
theorem own : ownKnob Try.prog.godebug = none := by kernel_rfl
theorem laidOut : laidOutB Try.prog = true := by kernel_rfl
def IsRow (k : IntKind) (w : World) (a : Option Addr) (len cap : Nat) (zs : List Int) : Prop :=
  (a = none ∧ len = 0 ∧ cap = 0 ∧ zs = []) ∨
  ∃ x, a = some x ∧ len ≤ cap ∧ cap ≤ maxLen ∧ zs.length = cap ∧ (∀ i, i < zs.length → w.cell? (x.add i) = some (.int k (zs.getD i 0))) ∧ ∀ n ∈ zs, (Lit.int k n).wf = true
theorem agg_cells {P : Program} {w : World} {r : Reach} {b0 : Nat} {t : TypeId} {v : Value} (ts : List TypeId) (hu : (match P.underlying t with | some (.struct _) | some (.array _ _) => true | _ => false) = true) (hts : P.cellTypes P.depth t = some ts) (hsz : P.cellsOf t = ts.length) (hp : 0 < ts.length) (h : Value.okWide P w r b0 t v) :
    ∃ cs : Array Value, v = .agg cs ∧ cs.size = ts.length ∧ ∀ (i : Nat) (u : TypeId) (c : Value), ts[i]? = some u → cs[i]? = some c → Cell.okWide P w r b0 u c := by
  have key : ∃ cs, v = .agg cs ∧ cs.size = P.cellsOf t ∧ Row.okWide P w r b0 t cs := by
    unfold Value.okWide at h
    revert h hu
    cases hq : P.underlying t with
    | none => intro hu; simp at hu
    | some x => cases x <;> intro hu h <;> first | exact h | simp at hu
  obtain ⟨cs, h1, h2, ts', h3, _, h4⟩ := key
  rw [hts] at h3
  obtain rfl := Option.some.inj h3
  refine ⟨cs, h1, h2.trans hsz, fun i u c hi hc => ?_⟩
  obtain ⟨u', hu', hok⟩ := h4 i c hc
  have hlt : i < ts.length := (List.getElem?_eq_some_iff.1 hi).1
  rw [Nat.mod_eq_of_lt hlt, hi] at hu'
  obtain rfl := Option.some.inj hu'
  exact hok
theorem cell_int {P : Program} {w : World} {r : Reach} {b0 : Nat} {u : TypeId} {c : Value} {k : IntKind} (hu : P.underlying u = some (.int k)) (h : Cell.okWide P w r b0 u c) : ∃ n, c = .int k n ∧ (Lit.int k n).wf = true := by
  unfold Cell.okWide at h
  rw [hu] at h
  cases c <;> simp [Cell.ok, hu] at h
  obtain ⟨rfl, h⟩ := h
  exact ⟨_, rfl, by simpa [Lit.wf, IntKind.has] using h⟩
theorem cell_bool {P : Program} {w : World} {r : Reach} {b0 : Nat} {u : TypeId} {c : Value} (hu : P.underlying u = some .bool) (h : Cell.okWide P w r b0 u c) : ∃ b, c = .bool b := by
  unfold Cell.okWide at h
  rw [hu] at h
  cases c <;> simp [Cell.ok, hu] at h
  exact ⟨_, rfl⟩
theorem arr8 {cs : Array Value} (h : cs.size = 8) : ∃ c0 c1 c2 c3 c4 c5 c6 c7, cs = #[c0, c1, c2, c3, c4, c5, c6, c7] := by
  obtain ⟨l⟩ := cs
  simp at h
  match l, h with
  | [c0, c1, c2, c3, c4, c5, c6, c7], _ => exact ⟨c0, c1, c2, c3, c4, c5, c6, c7, rfl⟩
theorem sl_fields {H : Type} {enc : TypeId × Value → H} {P : Program} {w : World} {base : Nat} {spare : Nat → Bool} {held : Bool} {t e : TypeId} {fs : Array Field} {fuel : Nat} {cs : List Value} {x : DataW H × List MemPlace}
    (ht : P.underlying t = some (.slice e)) (he : P.underlying e = some (.struct fs)) (hone : Go.Deep.oneCellFields P fs = true) (hC : P.cellsOf e = fs.size) (h : DataW.trod enc P w base spare held fuel t cs = some x) :
    cs = [.slice none 0 0] ∨ ∃ (a : Addr) (len cap : Nat), cs = [.slice (some a) len cap] ∧ len ≤ cap ∧ cap ≤ maxLen ∧
      ∀ i, i < len → ∀ (j : Nat) (f : Field), fs[j]? = some f → ∃ (v : Value) (y : DataW H × List MemPlace) (n : Nat), w.cell? (a.add (i * fs.size + j)) = some v ∧ DataW.trod enc P w base spare held n f.type [v] = some y := by
  rcases Go.Deep.open_slice ht h with h0 | ⟨a, len, cap, m, n, D, Pl, hcs, hb, hl, hm, hmm, hx, hi⟩
  · exact .inl h0.1
  refine .inr ⟨a, len, cap, hcs, hl, hm, fun i hlt j f hj => ?_⟩
  have him : i < m := by rw [hmm]; split <;> omega
  obtain ⟨q, hq, hd⟩ := hi i him
  obtain ⟨ys, k, _, _, hlen, hyl, hf⟩ := DataW.trod_struct he hd
  have o := Go.Deep.hone_of hone j f hj
  have lt : j < fs.size := (Array.getElem?_eq_some_iff.1 hj).1
  have ltq : j < q.length := by omega
  have lty : j < ys.length := by omega
  have c := (World.cells?_some hq).2.2 j (by omega)
  have d := hf j f hj
  rw [o.1, o.2, List.drop_eq_getElem_cons ltq, List.getElem?_eq_getElem lty] at d
  rw [Go.Deep.add_add, hC, List.getElem?_eq_getElem ltq] at c
  exact ⟨_, _, _, c, d⟩
set_option maxRecDepth 100000 in
theorem lifted (os : Os) (started : os.Started) (H : Type) (enc : TypeId × Value → H) :
    ReturnsInHanded {} Try.checked os 4 .any (Rows.signalChecksSpec.pre6 enc Try.prog Try.f4 Rows.signalChecksRow.domain false) (Rows.signalChecksSpec.post enc Try.prog Try.f4 false true false false) := by
  refine returnsInHanded_of_change_sized (C := Try.checked) own started (by kernel_rfl) Try.func4
    (ChangeSpec.witness6 (enc := enc) (C := Try.checked) false ⟨#[], #[.slice none 0 0, .slice none 0 0, .agg #[.int .u8 0, .int .u8 0, .int .u8 0, .int .u8 0, .int .u8 0, .int .u8 0, .int .u8 0, .int .u8 0]], []⟩ 8 (by kernel_rfl) (by kernel_rfl) (by kernel_rfl) (by kernel_rfl)) ?_
  intro W base args ds gs before hval0 hW hcnd hsz0 _
  have hsz : (DataW.weightsEach Try.prog (Try.f4.params.toList ++ Rows.signalChecksSpec.plain.varTypes Try.prog) (ds ++ gs)).all (· ≤ reachBytes) = true := hsz0
  have hval : ∀ (j : Nat) t v, Try.f4.params[j]? = some t → args[j]? = some v → Value.okWide Try.prog W .any base t v := hval0
  have hW' := hW
  obtain ⟨p, q, hA0, hV, rfl, hfz, hnd⟩ := hW
  have hA : DataW.TrodAll enc Try.prog W 0 (fun _ => true) true Try.f4.params.toList args.toList ds p := hA0
  rw [Try.params4] at hA hval hsz
  obtain ⟨v0, vs0, d0, ds0, p0, q0, hargs, rfl, rfl, h0, r0⟩ := trodAll_cons hA
  obtain ⟨v1, vs1, d1, ds1, p1, q1, rfl, rfl, rfl, h1, r1⟩ := trodAll_cons r0
  obtain ⟨v2, vs2, d2, ds2, p2, q2, rfl, rfl, rfl, h2, r2⟩ := trodAll_cons r1
  obtain ⟨rfl, rfl, rfl⟩ := trodAll_nil r2
  obtain rfl : args = #[v0, v1, v2] := by cases args; simp_all
  obtain ⟨rfl, rfl⟩ := trodVars_none hV
  have k0 := h0
  have lt0 : ∀ x ∈ p0, x.block < W.heap.size := by obtain ⟨m, hm⟩ := k0; exact DataW.trod_lt m _ _ _ hm
  obtain ⟨a0, len0, cap0, rfl⟩ := okWide_slice Try.underlying39 (hval 0 39 v0 rfl rfl)
  have w0 : (a0 = none ∧ len0 = 0 ∧ cap0 = 0) ∨ ∃ x, a0 = some x ∧ len0 ≤ cap0 ∧ cap0 ≤ maxLen ∧ ∀ i, i < len0 → ∃ (z0 : Int) (z1 : Int) (z2 : Bool) (z3 : Bool) (z4 : Int) (z5 : Int), W.cell? (x.add (i * 6 + 0)) = some (.int .i64 z0) ∧ W.cell? (x.add (i * 6 + 1)) = some (.int .i64 z1) ∧ W.cell? (x.add (i * 6 + 2)) = some (.bool z2) ∧ W.cell? (x.add (i * 6 + 3)) = some (.bool z3) ∧ W.cell? (x.add (i * 6 + 4)) = some (.int .i64 z4) ∧ W.cell? (x.add (i * 6 + 5)) = some (.int .i64 z5) ∧ (Lit.int .i64 z0).wf = true ∧ (Lit.int .i64 z1).wf = true ∧ (Lit.int .i64 z4).wf = true ∧ (Lit.int .i64 z5).wf = true := by
    obtain ⟨fuel, hf⟩ := h0
    rcases sl_fields Try.underlying39 Try.underlying23 (by kernel_rfl) (by kernel_rfl) hf with hcs | ⟨x, l, c, hcs, hl, hm, hr⟩
    · simp [Value.cells] at hcs
      exact .inl hcs
    · simp [Value.cells] at hcs
      obtain ⟨rfl, rfl, rfl⟩ := hcs
      refine .inr ⟨_, rfl, hl, hm, fun i hi => ?_⟩
      obtain ⟨v0_0, y0, n0, hv0, ht0⟩ := hr i hi 0 _ rfl
      obtain ⟨v0_1, y1, n1, hv1, ht1⟩ := hr i hi 1 _ rfl
      obtain ⟨v0_2, y2, n2, hv2, ht2⟩ := hr i hi 2 _ rfl
      obtain ⟨v0_3, y3, n3, hv3, ht3⟩ := hr i hi 3 _ rfl
      obtain ⟨v0_4, y4, n4, hv4, ht4⟩ := hr i hi 4 _ rfl
      obtain ⟨v0_5, y5, n5, hv5, ht5⟩ := hr i hi 5 _ rfl
      obtain ⟨z0, hz0, _, hw0⟩ := DataW.trod_int Try.underlying3 ht0
      simp only [List.cons.injEq, and_true] at hz0
      subst hz0
      obtain ⟨z1, hz1, _, hw1⟩ := DataW.trod_int Try.underlying3 ht1
      simp only [List.cons.injEq, and_true] at hz1
      subst hz1
      obtain ⟨z2, hz2, _⟩ := DataW.trod_bool Try.underlying4 ht2
      simp only [List.cons.injEq, and_true] at hz2
      subst hz2
      obtain ⟨z3, hz3, _⟩ := DataW.trod_bool Try.underlying4 ht3
      simp only [List.cons.injEq, and_true] at hz3
      subst hz3
      obtain ⟨z4, hz4, _, hw4⟩ := DataW.trod_int Try.underlying2 ht4
      simp only [List.cons.injEq, and_true] at hz4
      subst hz4
      obtain ⟨z5, hz5, _, hw5⟩ := DataW.trod_int Try.underlying2 ht5
      simp only [List.cons.injEq, and_true] at hz5
      subst hz5
      exact ⟨z0, z1, z2, z3, z4, z5, hv0, hv1, hv2, hv3, hv4, hv5, hw0, hw1, hw4, hw5⟩
  have k1 := h1
  have lt1 : ∀ x ∈ p1, x.block < W.heap.size := by obtain ⟨m, hm⟩ := k1; exact DataW.trod_lt m _ _ _ hm
  obtain ⟨a1, len1, cap1, rfl⟩ := okWide_slice Try.underlying40 (hval 1 40 v1 rfl rfl)
  obtain ⟨z1, w1⟩ : ∃ zs, IsRow .i64 W a1 len1 cap1 zs := by
    obtain ⟨fuel, hf⟩ := h1
    rcases open_ints Try.underlying40 Try.underlying2 (by kernel_rfl) hf with ⟨hcs, _⟩ | ⟨x, l, c, zs, hcs, _, hl, hm, hz, _, hcell, hwz⟩
    · simp [Value.cells] at hcs
      obtain ⟨rfl, rfl, rfl⟩ := hcs
      exact ⟨[], .inl ⟨rfl, rfl, rfl, rfl⟩⟩
    · simp [Value.cells] at hcs
      obtain ⟨rfl, rfl, rfl⟩ := hcs
      exact ⟨zs, .inr ⟨_, rfl, hl, hm, by simpa using hz, hcell, hwz⟩⟩
  have y1 : len1 * 8 ≤ 140737488351232 := Go.Proofs.YtepeihlhokpjjaaW.PrintWords.sized_ints hsz (j := 1) (t := 40) rfl rfl Try.underlying40 Try.underlying2 (by kernel_rfl) (by kernel_rfl) h1
  have k2 := h2
  have lt2 : ∀ x ∈ p2, x.block < W.heap.size := by obtain ⟨m, hm⟩ := k2; exact DataW.trod_lt m _ _ _ hm
  obtain ⟨cs2, rfl, hz2, hc2⟩ := agg_cells [5, 5, 5, 5, 5, 5, 5, 5] (by kernel_rfl) (by kernel_rfl) (by kernel_rfl) (by decide) (hval 2 24 v2 rfl rfl)
  obtain ⟨c2_0, c2_1, c2_2, c2_3, c2_4, c2_5, c2_6, c2_7, rfl⟩ := arr8 hz2
  obtain ⟨a2_0, rfl, w2_0⟩ := cell_int Try.underlying5 (hc2 0 _ _ rfl rfl)
  obtain ⟨a2_1, rfl, w2_1⟩ := cell_int Try.underlying5 (hc2 1 _ _ rfl rfl)
  obtain ⟨a2_2, rfl, w2_2⟩ := cell_int Try.underlying5 (hc2 2 _ _ rfl rfl)
  obtain ⟨a2_3, rfl, w2_3⟩ := cell_int Try.underlying5 (hc2 3 _ _ rfl rfl)
  obtain ⟨a2_4, rfl, w2_4⟩ := cell_int Try.underlying5 (hc2 4 _ _ rfl rfl)
  obtain ⟨a2_5, rfl, w2_5⟩ := cell_int Try.underlying5 (hc2 5 _ _ rfl rfl)
  obtain ⟨a2_6, rfl, w2_6⟩ := cell_int Try.underlying5 (hc2 6 _ _ rfl rfl)
  obtain ⟨a2_7, rfl, w2_7⟩ := cell_int Try.underlying5 (hc2 7 _ _ rfl rfl)
  clear hA0 hval0 hsz0 hsz
  refine (Go.Proofs.Ytepeihlhokpjjaa.P.SignalChecks_walk a0 len0 cap0 a1 len1 cap1 z1 a2_0 a2_1 a2_2 a2_3 a2_4 a2_5 a2_6 a2_7 W w0 w1 y1 w2_0 w2_1 w2_2 w2_3 w2_4 w2_5 w2_6 w2_7).mono fun e W' ⟨he, bel⟩ => ?_
  subst he
  exact ⟨_, rfl, _, _, _, [], _, [], hW', trodAll_mk1 (shut_bool Try.underlying4 _), (trodAll_cons_mk (Below.trod laidOut (by kernel_rfl) (of_decide_eq_true (by kernel_rfl)) k0 bel lt0) (trodAll_cons_mk (Below.trod laidOut (by kernel_rfl) (of_decide_eq_true (by kernel_rfl)) k1 bel lt1) (trodAll_cons_mk (Below.trod laidOut (by kernel_rfl) (of_decide_eq_true (by kernel_rfl)) k2 bel lt2) trodAll_mk0))), rfl, bel.frame _, fun h => by cases h⟩
theorem over : Rows.signalChecksRow.holds Try.pinned (OpenSpec.ofChange Rows.signalChecksSpec) :=
  OpenClaim.holds_of_wide 4 Try.f4 rfl rfl rfl rfl rfl rfl rfl ⟨rfl, rfl, rfl, rfl, rfl⟩ rfl rfl rfl rfl rfl (by kernel_rfl) Try.func4 (by kernel_rfl)
    (of_decide_eq_true (by kernel_rfl)) (by unfold Func.isWrapper; first | (rw [if_pos (by decide +kernel)]; kernel_rfl) | (rw [if_neg (by decide +kernel)]; exact ⟨rfl, rfl⟩))
    (fun os started H enc _ => lifted os started H enc)
theorem proved : Rows.SignalChecksSaid := over
#print axioms proved
end Go.Proofs.Ytepeihlhokpjjaa.signalChecks
namespace Go.Proofs.Ytepeihlhokpjjaa
/-- The row, under a short name, for the claim. -/
theorem signalChecks_holds : Rows.SignalChecksSaid := signalChecks.proved
end Go.Proofs.Ytepeihlhokpjjaa
