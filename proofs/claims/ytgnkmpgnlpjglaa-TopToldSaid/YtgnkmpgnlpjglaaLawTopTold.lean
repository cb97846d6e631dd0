/- The statement of the law 'TopTold': its row, out of the walk that is proved beside it: for every input the law answers true, and its arguments read as before. No condition of its own. -/
import Derived.Test.YtgnkmpgnlpjglaaRows
import Derived.Test.YtgnkmpgnlpjglaaTopToldWalk
import Derived.WalkKit
import Derived.ProofKit
import Derived.OpenShut
import Derived.ShutString
import Derived.ChangeOld
import Derived.Below
import Derived.SizedLaws
import Derived.Test.YtgnkmpgnlpjglaaWSized
namespace Go.Proofs.Ytgnkmpgnlpjglaa.topTold
open Go.ChangeShapes Go.WideShapes Go.ChangeAt Go.RowKit
open Go.ChangeMaps (open_string shut_string)
set_option linter.unusedVariables false
theorem own : ownKnob Try.prog.godebug = none := by kernel_rfl
theorem laidOut : laidOutB Try.prog = true := by kernel_rfl
def IsRow (k : IntKind) (w : World) (a : Option Addr) (len cap : Nat) (zs : List Int) : Prop :=
  (a = none ∧ len = 0 ∧ cap = 0 ∧ zs = []) ∨
  ∃ x, a = some x ∧ len ≤ cap ∧ cap ≤ maxLen ∧ zs.length = cap ∧ (∀ i, i < zs.length → w.cell? (x.add i) = some (.int k (zs.getD i 0))) ∧ ∀ n ∈ zs, (Lit.int k n).wf = true
theorem agg_cells {P : Program} {w : World} {r : Reach} {b0 : Nat} {t : TypeId} {v : Value} (ts : List TypeId) (hu : (match P.underlying t with | some (.struct _) | some (.array _ _) => true | _ => false) = true) (hts : P.cellTypes P.depth t = some ts) (hsz : P.cellsOf t = ts.length) (hp : 0 < ts.length) (h : Value.okWide P w r b0 t v) :
    ∃ cs : Array Value, v = .agg cs ∧ cs.size = ts.length ∧ ∀ (i : Nat) (u : TypeId) (c : Value), ts[i]? = some u → cs[i]? = some c → Cell.okWide P w r b0 u c := by
  have key : ∃ cs, v = .agg cs ∧ cs.size = P.cellsOf t ∧ Row.okWide P w r b0 t cs := by
    unfold Value.okWide at h
    revert h hu
    cases hq : P.underlying t with
    | none => intro hu; simp at hu
    | some x => cases x <;> intro hu h <;> first | exact h | simp at hu
  obtain ⟨cs, h1, h2, ts', h3, _, h4⟩ := key
  rw [hts] at h3
  obtain rfl := Option.some.inj h3
  refine ⟨cs, h1, h2.trans hsz, fun i u c hi hc => ?_⟩
  obtain ⟨u', hu', hok⟩ := h4 i c hc
  have hlt : i < ts.length := (List.getElem?_eq_some_iff.1 hi).1
  rw [Nat.mod_eq_of_lt hlt, hi] at hu'
  obtain rfl := Option.some.inj hu'
  exact hok
theorem cell_int {P : Program} {w : World} {r : Reach} {b0 : Nat} {u : TypeId} {c : Value} {k : IntKind} (hu : P.underlying u = some (.int k)) (h : Cell.okWide P w r b0 u c) : ∃ n, c = .int k n ∧ (Lit.int k n).wf = true := by
  unfold Cell.okWide at h
  rw [hu] at h
  cases c <;> simp [Cell.ok, hu] at h
  obtain ⟨rfl, h⟩ := h
  exact ⟨_, rfl, by simpa [Lit.wf, IntKind.has] using h⟩
theorem cell_bool {P : Program} {w : World} {r : Reach} {b0 : Nat} {u : TypeId} {c : Value} (hu : P.underlying u = some .bool) (h : Cell.okWide P w r b0 u c) : ∃ b, c = .bool b := by
  unfold Cell.okWide at h
  rw [hu] at h
  cases c <;> simp [Cell.ok, hu] at h
  exact ⟨_, rfl⟩
theorem arr2 {cs : Array Value} (h : cs.size = 2) : ∃ c0 c1, cs = #[c0, c1] := by
  obtain ⟨l⟩ := cs
  simp at h
  match l, h with
  | [c0, c1], _ => exact ⟨c0, c1, rfl⟩
theorem arr3 {cs : Array Value} (h : cs.size = 3) : ∃ c0 c1 c2, cs = #[c0, c1, c2] := by
  obtain ⟨l⟩ := cs
  simp at h
  match l, h with
  | [c0, c1, c2], _ => exact ⟨c0, c1, c2, rfl⟩
set_option maxRecDepth 100000 in
theorem lifted (os : Os) (started : os.Started) (H : Type) (enc : TypeId × Value → H) :
    ReturnsInHanded {} Try.checked os 6 .any (Rows.topToldSpec.pre6 enc Try.prog Try.f6 Rows.topToldRow.domain false) (Rows.topToldSpec.post enc Try.prog Try.f6 false true false false) := by
  refine returnsInHanded_of_change_sized (C := Try.checked) own started (by kernel_rfl) Try.func6
    (ChangeSpec.witness6 (enc := enc) (C := Try.checked) false ⟨#[], #[.agg #[.int .i64 0, .int .i64 0, .int .i64 0], .agg #[.slice none 0 0, .slice none 0 0], .int .u16 0], []⟩ 8 (by kernel_rfl) (by kernel_rfl) (by kernel_rfl) (by kernel_rfl)) ?_
  intro W base args ds gs before hval0 hW hcnd hsz0 _
  have hsz : (DataW.weightsEach Try.prog (Try.f6.params.toList ++ Rows.topToldSpec.plain.varTypes Try.prog) (ds ++ gs)).all (· ≤ reachBytes) = true := hsz0
  have hval : ∀ (j : Nat) t v, Try.f6.params[j]? = some t → args[j]? = some v → Value.okWide Try.prog W .any base t v := hval0
  have hW' := hW
  obtain ⟨p, q, hA0, hV, rfl, hfz, hnd⟩ := hW
  have hA : DataW.TrodAll enc Try.prog W 0 (fun _ => true) true Try.f6.params.toList args.toList ds p := hA0
  rw [Try.params6] at hA hval hsz
  obtain ⟨v0, vs0, d0, ds0, p0, q0, hargs, rfl, rfl, h0, r0⟩ := trodAll_cons hA
  obtain ⟨v1, vs1, d1, ds1, p1, q1, rfl, rfl, rfl, h1, r1⟩ := trodAll_cons r0
  obtain ⟨v2, vs2, d2, ds2, p2, q2, rfl, rfl, rfl, h2, r2⟩ := trodAll_cons r1
  obtain ⟨rfl, rfl, rfl⟩ := trodAll_nil r2
  obtain rfl : args = #[v0, v1, v2] := by cases args; simp_all
  obtain ⟨rfl, rfl⟩ := trodVars_none hV
  have k0 := h0
  have lt0 : ∀ x ∈ p0, x.block < W.heap.size := by obtain ⟨m, hm⟩ := k0; exact DataW.trod_lt m _ _ _ hm
  obtain ⟨cs0, rfl, hz0, hc0⟩ := agg_cells [2, 2, 2] (by kernel_rfl) (by kernel_rfl) (by kernel_rfl) (by decide) (hval 0 52 v0 rfl rfl)
  obtain ⟨c0_0, c0_1, c0_2, rfl⟩ := arr3 hz0
  obtain ⟨a0_0, rfl, w0_0⟩ := cell_int Try.underlying2 (hc0 0 _ _ rfl rfl)
  obtain ⟨a0_1, rfl, w0_1⟩ := cell_int Try.underlying2 (hc0 1 _ _ rfl rfl)
  obtain ⟨a0_2, rfl, w0_2⟩ := cell_int Try.underlying2 (hc0 2 _ _ rfl rfl)
  have k1 := h1
  have lt1 : ∀ x ∈ p1, x.block < W.heap.size := by obtain ⟨m, hm⟩ := k1; exact DataW.trod_lt m _ _ _ hm
  obtain ⟨cs1, rfl, hz1, hc1⟩ := agg_cells [53, 53] (by kernel_rfl) (by kernel_rfl) (by kernel_rfl) (by decide) (hval 1 54 v1 rfl rfl)
  obtain ⟨c1_0, c1_1, rfl⟩ := arr2 hz1
  obtain ⟨a1_0, len1_0, cap1_0, z1_0, rfl, w1_0⟩ : ∃ a l c zs, c1_0 = .slice a l c ∧ IsRow .u16 W a l c zs := by
    obtain ⟨fuel, hf⟩ := h1
    obtain ⟨xs, n, _, _, _, hx, hel⟩ := DataW.trod_array Try.underlying54 hf
    have he := hel 0 (by decide)
    have hco : Try.prog.cellsOf 53 = 1 := by kernel_rfl
    obtain ⟨y, hy⟩ : ∃ y, xs[0]? = some y := ⟨_, List.getElem?_eq_getElem (by omega)⟩
    rw [hco, hy] at he
    simp [Value.cells] at he
    rcases open_ints Try.underlying53 Try.underlying55 (by kernel_rfl) he with ⟨hcs, _⟩ | ⟨x, l, c, zs, hcs, _, hl, hm, hz, _, hcell, hwz⟩
    · simp at hcs
      exact ⟨none, 0, 0, [], hcs, .inl ⟨rfl, rfl, rfl, rfl⟩⟩
    · simp at hcs
      exact ⟨some x, l, c, zs, hcs, .inr ⟨x, rfl, hl, hm, by simpa using hz, hcell, hwz⟩⟩
  obtain ⟨a1_1, len1_1, cap1_1, z1_1, rfl, w1_1⟩ : ∃ a l c zs, c1_1 = .slice a l c ∧ IsRow .u16 W a l c zs := by
    obtain ⟨fuel, hf⟩ := h1
    obtain ⟨xs, n, _, _, _, hx, hel⟩ := DataW.trod_array Try.underlying54 hf
    have he := hel 1 (by decide)
    have hco : Try.prog.cellsOf 53 = 1 := by kernel_rfl
    obtain ⟨y, hy⟩ : ∃ y, xs[1]? = some y := ⟨_, List.getElem?_eq_getElem (by omega)⟩
    rw [hco, hy] at he
    simp [Value.cells] at he
    rcases open_ints Try.underlying53 Try.underlying55 (by kernel_rfl) he with ⟨hcs, _⟩ | ⟨x, l, c, zs, hcs, _, hl, hm, hz, _, hcell, hwz⟩
    · simp at hcs
      exact ⟨none, 0, 0, [], hcs, .inl ⟨rfl, rfl, rfl, rfl⟩⟩
    · simp at hcs
      exact ⟨some x, l, c, zs, hcs, .inr ⟨x, rfl, hl, hm, by simpa using hz, hcell, hwz⟩⟩
  obtain ⟨a2, rfl, rfl, rfl, w2⟩ := open_int Try.underlying55 (hval 2 55 v2 rfl rfl) h2
  clear hA0 hval0 hsz0 hsz
  refine (Go.Proofs.Ytgnkmpgnlpjglaa.P.TopTold_walk a0_0 a0_1 a0_2 a1_0 len1_0 cap1_0 z1_0 a1_1 len1_1 cap1_1 z1_1 a2 W w0_0 w0_1 w0_2 w1_0 w1_1 w2).mono fun e W' ⟨he, bel⟩ => ?_
  subst he
  exact ⟨_, rfl, _, _, _, [], _, [], hW', trodAll_mk1 (shut_bool Try.underlying4 _), (trodAll_cons_mk (Below.trod laidOut (by kernel_rfl) (of_decide_eq_true (by kernel_rfl)) k0 bel lt0) (trodAll_cons_mk (Below.trod laidOut (by kernel_rfl) (of_decide_eq_true (by kernel_rfl)) k1 bel lt1) (trodAll_cons_mk (shut_int Try.underlying55 w2) trodAll_mk0))), rfl, bel.frame _, fun h => by cases h⟩
theorem over : Rows.topToldRow.holds Try.pinned (OpenSpec.ofChange Rows.topToldSpec) :=
  OpenClaim.holds_of_wide 6 Try.f6 rfl rfl rfl rfl rfl rfl rfl ⟨rfl, rfl, rfl, rfl, rfl⟩ rfl rfl rfl rfl rfl (by kernel_rfl) Try.func6 (by kernel_rfl)
    (of_decide_eq_true (by kernel_rfl)) (by unfold Func.isWrapper; first | (rw [if_pos (by decide +kernel)]; kernel_rfl) | (rw [if_neg (by decide +kernel)]; exact ⟨rfl, rfl⟩))
    (fun os started H enc _ => lifted os started H enc)
theorem proved : Rows.TopToldSaid := over
#print axioms proved
end Go.Proofs.Ytgnkmpgnlpjglaa.topTold
namespace Go.Proofs.Ytgnkmpgnlpjglaa
/-- The row, under a short name, for the claim. -/
theorem topTold_holds : Rows.TopToldSaid := topTold.proved
end Go.Proofs.Ytgnkmpgnlpjglaa
