/- The statement of the law 'TopBodies': its tied card, out of the walk that is proved beside it: for every input the law answers true, and its arguments read as before, where the listed variable crc.divisor reads as the row lists it. No condition of its own. -/
import Derived.Test.YtjhnkncmdeineaaDoorRows
import Derived.Test.YtjhnkncmdeineaaDoorCards
import Derived.Test.YtjhnkncmdeineaaDoorTie
import Derived.Test.YtjhnkncmdeineaaDoorBodWalk
import Derived.WalkKit
import Derived.ProofKit
import Derived.OpenShut
import Derived.ShutString
import Derived.ChangeOld
import Derived.Below
import Derived.SizedLaws
import Derived.LaidMore
import Derived.Stop.Joined
import Derived.SevenTiedAt
namespace Go.Proofs.YtjhnkncmdeineaaDoor.topBodies
open Go.ChangeShapes Go.WideShapes Go.ChangeAt Go.RowKit
set_option linter.unusedVariables false
theorem own : ownKnob Tryd.prog.godebug = none := by kernel_rfl
theorem laidOut : laidOutB Tryd.prog = true := by kernel_rfl
def laidB : List (String × DataW Unit) := [("bellbuoy/crc.divisor", Rows.laid_bellbuoy_crc_divisor)]
theorem gDiv : Tryd.prog.globalNamed "bellbuoy/crc.divisor" = some 0 := by kernel_rfl
theorem tDiv : (Tryd.prog.globals[0]?).map (·.type) = some 55 := by kernel_rfl
/-- The door's own heap meets the condition. -/
theorem door_met (os : Os) (args : Array Value) : laidMetH Tryd.prog laidB ((World.doorLaid Tryd.prog 400 os).forCall (fun _ _ => 0) ⟨#[], args, []⟩).memory :=
  laidMetH_of_parts3 (fuel := 8) (laidMet_of_run' 8 (by kernel_rfl) (by kernel_rfl)) (by kernel_rfl) (by kernel_rfl)
/-- What the condition gives the walk: the divisor's cells are bytes. -/
theorem div_of_laid {W : World} (h : laidMetH Tryd.prog laidB W) : P.Div W := by
  rw [MakeChecks.laidMetH_plain _ _ _ (by kernel_rfl)] at h
  obtain ⟨ps, ⟨g0, t0, cs0, f0, p0, q0, hg0, ht0, hv0, hd0, _, _⟩, _, _⟩ := h
  obtain rfl := Option.some.inj (gDiv.symm.trans hg0)
  obtain rfl := Option.some.inj (tDiv.symm.trans ht0)
  obtain ⟨xs, m1, rfl, hx1, hlen, hn3, hel⟩ := DataW.trod_array Tryd.underlying55 hd0
  have c5 : Tryd.prog.cellsOf 5 = 1 := by kernel_rfl
  have key : ∀ j, j < 16 → ∃ k : Int, W.cell? ⟨0, j, none⟩ = some (.int .u8 k) := fun j hj => by
    have h := hel j hj
    rw [c5, Nat.mul_one] at h
    obtain ⟨y, hy⟩ : ∃ y, xs[j]? = some y := ⟨_, List.getElem?_eq_getElem (by omega)⟩
    rw [hy] at h
    obtain ⟨k, e1, _, _⟩ := DataW.trod_int Tryd.underlying5 h
    refine ⟨k, ?_⟩
    rw [World.var?_cell hg0 hv0 j]
    have e2 : (cs0.toList.drop j)[0]? = some (.int .u8 k) := by
      have := congrArg (fun l => l[0]?) e1
      simpa using this
    rw [List.getElem?_drop, Nat.add_zero] at e2
    simpa using e2
  refine ⟨?_, fun j => match W.cell? ⟨0, j, none⟩ with | some (.int _ k) => k | _ => 0, fun j hj => ?_⟩
  · obtain ⟨k, hk⟩ := key 0 (by decide)
    rcases Nat.eq_zero_or_pos W.heap.size with h0 | h0
    · simp [World.cell?, h0] at hk
    · exact h0
  · obtain ⟨k, hk⟩ := key j hj
    simp only [hk]
theorem agg_cells {P : Program} {w : World} {r : Reach} {b0 : Nat} {t : TypeId} {v : Value} (ts : List TypeId) (hu : (match P.underlying t with | some (.struct _) | some (.array _ _) => true | _ => false) = true) (hts : P.cellTypes P.depth t = some ts) (hsz : P.cellsOf t = ts.length) (hp : 0 < ts.length) (h : Value.okWide P w r b0 t v) :
    ∃ cs : Array Value, v = .agg cs ∧ cs.size = ts.length ∧ ∀ (i : Nat) (u : TypeId) (c : Value), ts[i]? = some u → cs[i]? = some c → Cell.okWide P w r b0 u c := by
  have key : ∃ cs, v = .agg cs ∧ cs.size = P.cellsOf t ∧ Row.okWide P w r b0 t cs := by
    unfold Value.okWide at h
    revert h hu
    cases hq : P.underlying t with
    | none => intro hu; simp at hu
    | some x => cases x <;> intro hu h <;> first | exact h | simp at hu
  obtain ⟨cs, h1, h2, ts', h3, _, h4⟩ := key
  rw [hts] at h3
  obtain rfl := Option.some.inj h3
  refine ⟨cs, h1, h2.trans hsz, fun i u c hi hc => ?_⟩
  obtain ⟨u', hu', hok⟩ := h4 i c hc
  have hlt : i < ts.length := (List.getElem?_eq_some_iff.1 hi).1
  rw [Nat.mod_eq_of_lt hlt, hi] at hu'
  obtain rfl := Option.some.inj hu'
  exact hok
theorem cell_int {P : Program} {w : World} {r : Reach} {b0 : Nat} {u : TypeId} {c : Value} {k : IntKind} (hu : P.underlying u = some (.int k)) (h : Cell.okWide P w r b0 u c) : ∃ n, c = .int k n ∧ (Lit.int k n).wf = true := by
  unfold Cell.okWide at h
  rw [hu] at h
  cases c <;> simp [Cell.ok, hu] at h
  obtain ⟨rfl, h⟩ := h
  exact ⟨_, rfl, by simpa [Lit.wf, IntKind.has] using h⟩
theorem cell_bool {P : Program} {w : World} {r : Reach} {b0 : Nat} {u : TypeId} {c : Value} (hu : P.underlying u = some .bool) (h : Cell.okWide P w r b0 u c) : ∃ b, c = .bool b := by
  unfold Cell.okWide at h
  rw [hu] at h
  cases c <;> simp [Cell.ok, hu] at h
  exact ⟨_, rfl⟩
theorem arr12 {cs : Array Value} (h : cs.size = 12) : ∃ c0 c1 c2 c3 c4 c5 c6 c7 c8 c9 c10 c11, cs = #[c0, c1, c2, c3, c4, c5, c6, c7, c8, c9, c10, c11] := by
  obtain ⟨l⟩ := cs
  simp at h
  match l, h with
  | [c0, c1, c2, c3, c4, c5, c6, c7, c8, c9, c10, c11], _ => exact ⟨c0, c1, c2, c3, c4, c5, c6, c7, c8, c9, c10, c11, rfl⟩
def fn8 (x0 x1 x2 x3 x4 x5 x6 x7 : Int) : Nat → Int
  | 0 => x0
  | 1 => x1
  | 2 => x2
  | 3 => x3
  | 4 => x4
  | 5 => x5
  | 6 => x6
  | _ => x7
theorem fn8_rng {x0 x1 x2 x3 x4 x5 x6 x7 : Int} (h0 : (Lit.int .u8 x0).wf = true) (h1 : (Lit.int .u8 x1).wf = true) (h2 : (Lit.int .u8 x2).wf = true) (h3 : (Lit.int .u8 x3).wf = true) (h4 : (Lit.int .u8 x4).wf = true) (h5 : (Lit.int .u8 x5).wf = true) (h6 : (Lit.int .u8 x6).wf = true) (h7 : (Lit.int .u8 x7).wf = true) : ∀ j, j < 8 → 0 ≤ fn8 x0 x1 x2 x3 x4 x5 x6 x7 j ∧ fn8 x0 x1 x2 x3 x4 x5 x6 x7 j < 256 := fun j hj => by
  have k : ∀ {x : Int}, (Lit.int .u8 x).wf = true → 0 ≤ x ∧ x < 256 := fun h => by have := bounds_u8 h; omega
  match j, hj with
  | 0, _ => exact k h0
  | 1, _ => exact k h1
  | 2, _ => exact k h2
  | 3, _ => exact k h3
  | 4, _ => exact k h4
  | 5, _ => exact k h5
  | 6, _ => exact k h6
  | 7, _ => exact k h7
  | j + 8, hj => exact absurd hj (by omega)
theorem walk (a0_0 : Bool) (a0_1 : Int) (a0_2 : Bool) (a0_3 : Int) (a0_4 : Int) (a0_5 : Int) (a0_6 : Int) (a0_7 : Int) (a0_8 : Int) (a0_9 : Int) (a0_10 : Int) (a0_11 : Int) (a1_0 : Bool) (a1_1 : Int) (a1_2 : Bool) (a1_3 : Int) (a1_4 : Int) (a1_5 : Int) (a1_6 : Int) (a1_7 : Int) (a1_8 : Int) (a1_9 : Int) (a1_10 : Int) (a1_11 : Int) (w : World) (hd : P.Div w) (w0_1 : (Lit.int .u32 a0_1).wf = true) (w0_3 : (Lit.int .i64 a0_3).wf = true) (w0_4 : (Lit.int .u8 a0_4).wf = true) (w0_5 : (Lit.int .u8 a0_5).wf = true) (w0_6 : (Lit.int .u8 a0_6).wf = true) (w0_7 : (Lit.int .u8 a0_7).wf = true) (w0_8 : (Lit.int .u8 a0_8).wf = true) (w0_9 : (Lit.int .u8 a0_9).wf = true) (w0_10 : (Lit.int .u8 a0_10).wf = true) (w0_11 : (Lit.int .u8 a0_11).wf = true) (w1_1 : (Lit.int .u32 a1_1).wf = true) (w1_3 : (Lit.int .i64 a1_3).wf = true) (w1_4 : (Lit.int .u8 a1_4).wf = true) (w1_5 : (Lit.int .u8 a1_5).wf = true) (w1_6 : (Lit.int .u8 a1_6).wf = true) (w1_7 : (Lit.int .u8 a1_7).wf = true) (w1_8 : (Lit.int .u8 a1_8).wf = true) (w1_9 : (Lit.int .u8 a1_9).wf = true) (w1_10 : (Lit.int .u8 a1_10).wf = true) (w1_11 : (Lit.int .u8 a1_11).wf = true) :
    Calls Tryd.prog 3 #[.agg #[.bool a0_0, .int .u32 a0_1, .bool a0_2, .int .i64 a0_3, .int .u8 a0_4, .int .u8 a0_5, .int .u8 a0_6, .int .u8 a0_7, .int .u8 a0_8, .int .u8 a0_9, .int .u8 a0_10, .int .u8 a0_11], .agg #[.bool a1_0, .int .u32 a1_1, .bool a1_2, .int .i64 a1_3, .int .u8 a1_4, .int .u8 a1_5, .int .u8 a1_6, .int .u8 a1_7, .int .u8 a1_8, .int .u8 a1_9, .int .u8 a1_10, .int .u8 a1_11]] w fun e w' => e = .returned (.bool true) ∧ Below w.heap.size w w' :=
  P.Bodies_core a0_0 a0_1 a0_2 a0_3 (fn8 a0_4 a0_5 a0_6 a0_7 a0_8 a0_9 a0_10 a0_11) a1_0 a1_1 a1_2 a1_3 (fn8 a1_4 a1_5 a1_6 a1_7 a1_8 a1_9 a1_10 a1_11) w hd (by have := bounds_u32 w0_1; omega) (by have := bounds_u32 w0_1; omega) (fn8_rng w0_4 w0_5 w0_6 w0_7 w0_8 w0_9 w0_10 w0_11) (by have := bounds_u32 w1_1; omega) (by have := bounds_u32 w1_1; omega) (fn8_rng w1_4 w1_5 w1_6 w1_7 w1_8 w1_9 w1_10 w1_11)
set_option maxRecDepth 100000 in
theorem lifted (os : Os) (started : os.Started) (H : Type) (enc : TypeId × Value → H) :
    ReturnsInHanded {} Tryd.checked os 3 .any (fun w args => (Rows.topBodiesSpec.pre enc Tryd.prog Tryd.f3 [] false w args ∧ laidMetH Tryd.prog laidB w) ∧ sizedMet enc Tryd.prog Tryd.f3 (OpenSpec.ofChange Rows.topBodiesSpec) false w args)
      (Rows.topBodiesSpec.post enc Tryd.prog Tryd.f3 false true false false) := by
  refine returnsInHanded_of_change_and (C := Tryd.checked) (X := fun w _ => laidMetH Tryd.prog laidB w) (fun _ _ _ hh h => h.of_heap hh) own started (by kernel_rfl) Tryd.func3
    (ChangeSpec.witness_shaped (enc := enc) (C := Tryd.checked) (os := os) (X := fun w _ => laidMetH Tryd.prog laidB w) false (World.doorLaid Tryd.prog 400 os) #[.agg #[.bool false, .int .u32 0, .bool false, .int .i64 0, .int .u8 0, .int .u8 0, .int .u8 0, .int .u8 0, .int .u8 0, .int .u8 0, .int .u8 0, .int .u8 0], .agg #[.bool false, .int .u32 0, .bool false, .int .i64 0, .int .u8 0, .int .u8 0, .int .u8 0, .int .u8 0, .int .u8 0, .int .u8 0, .int .u8 0, .int .u8 0]] 8 rfl (World.shaped_of_RefB (by kernel_rfl) (by kernel_rfl)) (by kernel_rfl) (by kernel_rfl) (by kernel_rfl) (door_met os _)) ?_
  intro W base args ds gs before hval0 hW _ _ hLd _
  have hval : ∀ (j : Nat) t v, Tryd.f3.params[j]? = some t → args[j]? = some v → Value.okWide Tryd.prog W .any base t v := hval0
  have hW' := hW
  obtain ⟨p, q, hA0, hV, rfl, hfz, hnd⟩ := hW
  have hA : DataW.TrodAll enc Tryd.prog W 0 (fun _ => true) true Tryd.f3.params.toList args.toList ds p := hA0
  rw [Tryd.params3] at hA hval
  obtain ⟨v0, vs0, d0, ds0, p0, q0, hargs, rfl, rfl, h0, r0⟩ := trodAll_cons hA
  obtain ⟨v1, vs1, d1, ds1, p1, q1, rfl, rfl, rfl, h1, r1⟩ := trodAll_cons r0
  obtain ⟨rfl, rfl, rfl⟩ := trodAll_nil r1
  obtain rfl : args = #[v0, v1] := by cases args; simp_all
  obtain ⟨rfl, rfl⟩ := trodVars_none hV
  have k0 := h0
  have lt0 : ∀ x ∈ p0, x.block < W.heap.size := by obtain ⟨m, hm⟩ := k0; exact DataW.trod_lt m _ _ _ hm
  have k1 := h1
  have lt1 : ∀ x ∈ p1, x.block < W.heap.size := by obtain ⟨m, hm⟩ := k1; exact DataW.trod_lt m _ _ _ hm
  obtain ⟨cs0, rfl, hz0, hc0⟩ := agg_cells [4, 22, 4, 3, 5, 5, 5, 5, 5, 5, 5, 5] (by kernel_rfl) (by kernel_rfl) (by kernel_rfl) (by decide) (hval 0 27 v0 rfl rfl)
  obtain ⟨c0_0, c0_1, c0_2, c0_3, c0_4, c0_5, c0_6, c0_7, c0_8, c0_9, c0_10, c0_11, rfl⟩ := arr12 hz0
  obtain ⟨a0_0, rfl⟩ := cell_bool Tryd.underlying4 (hc0 0 _ _ rfl rfl)
  obtain ⟨a0_1, rfl, w0_1⟩ := cell_int Tryd.underlying22 (hc0 1 _ _ rfl rfl)
  obtain ⟨a0_2, rfl⟩ := cell_bool Tryd.underlying4 (hc0 2 _ _ rfl rfl)
  obtain ⟨a0_3, rfl, w0_3⟩ := cell_int Tryd.underlying3 (hc0 3 _ _ rfl rfl)
  obtain ⟨a0_4, rfl, w0_4⟩ := cell_int Tryd.underlying5 (hc0 4 _ _ rfl rfl)
  obtain ⟨a0_5, rfl, w0_5⟩ := cell_int Tryd.underlying5 (hc0 5 _ _ rfl rfl)
  obtain ⟨a0_6, rfl, w0_6⟩ := cell_int Tryd.underlying5 (hc0 6 _ _ rfl rfl)
  obtain ⟨a0_7, rfl, w0_7⟩ := cell_int Tryd.underlying5 (hc0 7 _ _ rfl rfl)
  obtain ⟨a0_8, rfl, w0_8⟩ := cell_int Tryd.underlying5 (hc0 8 _ _ rfl rfl)
  obtain ⟨a0_9, rfl, w0_9⟩ := cell_int Tryd.underlying5 (hc0 9 _ _ rfl rfl)
  obtain ⟨a0_10, rfl, w0_10⟩ := cell_int Tryd.underlying5 (hc0 10 _ _ rfl rfl)
  obtain ⟨a0_11, rfl, w0_11⟩ := cell_int Tryd.underlying5 (hc0 11 _ _ rfl rfl)
  obtain ⟨cs1, rfl, hz1, hc1⟩ := agg_cells [4, 22, 4, 3, 5, 5, 5, 5, 5, 5, 5, 5] (by kernel_rfl) (by kernel_rfl) (by kernel_rfl) (by decide) (hval 1 27 v1 rfl rfl)
  obtain ⟨c1_0, c1_1, c1_2, c1_3, c1_4, c1_5, c1_6, c1_7, c1_8, c1_9, c1_10, c1_11, rfl⟩ := arr12 hz1
  obtain ⟨a1_0, rfl⟩ := cell_bool Tryd.underlying4 (hc1 0 _ _ rfl rfl)
  obtain ⟨a1_1, rfl, w1_1⟩ := cell_int Tryd.underlying22 (hc1 1 _ _ rfl rfl)
  obtain ⟨a1_2, rfl⟩ := cell_bool Tryd.underlying4 (hc1 2 _ _ rfl rfl)
  obtain ⟨a1_3, rfl, w1_3⟩ := cell_int Tryd.underlying3 (hc1 3 _ _ rfl rfl)
  obtain ⟨a1_4, rfl, w1_4⟩ := cell_int Tryd.underlying5 (hc1 4 _ _ rfl rfl)
  obtain ⟨a1_5, rfl, w1_5⟩ := cell_int Tryd.underlying5 (hc1 5 _ _ rfl rfl)
  obtain ⟨a1_6, rfl, w1_6⟩ := cell_int Tryd.underlying5 (hc1 6 _ _ rfl rfl)
  obtain ⟨a1_7, rfl, w1_7⟩ := cell_int Tryd.underlying5 (hc1 7 _ _ rfl rfl)
  obtain ⟨a1_8, rfl, w1_8⟩ := cell_int Tryd.underlying5 (hc1 8 _ _ rfl rfl)
  obtain ⟨a1_9, rfl, w1_9⟩ := cell_int Tryd.underlying5 (hc1 9 _ _ rfl rfl)
  obtain ⟨a1_10, rfl, w1_10⟩ := cell_int Tryd.underlying5 (hc1 10 _ _ rfl rfl)
  obtain ⟨a1_11, rfl, w1_11⟩ := cell_int Tryd.underlying5 (hc1 11 _ _ rfl rfl)
  have hdv := div_of_laid hLd
  clear hA0 hval0
  refine (walk a0_0 a0_1 a0_2 a0_3 a0_4 a0_5 a0_6 a0_7 a0_8 a0_9 a0_10 a0_11 a1_0 a1_1 a1_2 a1_3 a1_4 a1_5 a1_6 a1_7 a1_8 a1_9 a1_10 a1_11 W hdv w0_1 w0_3 w0_4 w0_5 w0_6 w0_7 w0_8 w0_9 w0_10 w0_11 w1_1 w1_3 w1_4 w1_5 w1_6 w1_7 w1_8 w1_9 w1_10 w1_11).mono fun e W' ⟨he, bel⟩ => ?_
  subst he
  exact ⟨_, rfl, _, _, _, [], _, [], hW', trodAll_mk1 (shut_bool Tryd.underlying4 _), (trodAll_cons_mk (Below.trod laidOut (by kernel_rfl) (of_decide_eq_true (by kernel_rfl)) k0 bel lt0) (trodAll_cons_mk (Below.trod laidOut (by kernel_rfl) (of_decide_eq_true (by kernel_rfl)) k1 bel lt1) trodAll_mk0)), rfl, bel.frame _, fun h => by cases h⟩
theorem over : Rows.TopBodiesSaid :=
  OpenClaim.holds_of_wide 3 Tryd.f3 rfl rfl rfl rfl rfl rfl rfl ⟨rfl, rfl, rfl, rfl, rfl⟩ rfl rfl rfl rfl rfl (by kernel_rfl) Tryd.func3 (by kernel_rfl)
    (of_decide_eq_true (by kernel_rfl)) (by unfold Func.isWrapper; first | (rw [if_pos (by decide +kernel)]; kernel_rfl) | (rw [if_neg (by decide +kernel)]; exact ⟨rfl, rfl⟩))
    (fun os started H enc _ => lifted os started H enc)
theorem card : Rows.TopBodiesCardSaid :=
  Claim7.holds_tied_plain_at .later [] [.data] true (true, "253c5e2e6027492e76b89e90084544953db0c92b2475bdf0788b85f6b5c61421") false
    over (fun _ h => by cases h) (by kernel_rfl) (fun _ h => by cases h) topBodies_row_tie rfl ⟨rfl, rfl⟩ (by kernel_rfl) rfl
    (fun f fn hf hfn => by
      obtain rfl : f = 3 := Option.some.inj ((show Tryd.prog.funcNamed "bellbuoy/bellbuoytop.TopBodies" = some 3 by kernel_rfl).symm.trans hf) |>.symm
      obtain rfl : fn = Tryd.f3 := (Option.some.inj (Tryd.func3.symm.trans hfn)).symm
      exact ⟨by kernel_rfl, fun j t ht => by
        rw [Tryd.params3] at ht
        have hm : t ∈ [27, 27] := by simpa using Array.mem_of_getElem? ht
        have hall : ([27, 27].all fun u => !Tryd.prog.wantsStandIn u) = true := by kernel_rfl
        exact (show Tryd.prog.wantsStandIn t = false by simpa using List.all_eq_true.1 hall t hm)⟩)
    (by kernel_rfl)
#print axioms card
end Go.Proofs.YtjhnkncmdeineaaDoor.topBodies
namespace Go.Proofs.YtjhnkncmdeineaaDoor
/-- The card, under a short name, for the claim. -/
theorem topBodies_holds : Rows.TopBodiesCardSaid := topBodies.card
end Go.Proofs.YtjhnkncmdeineaaDoor
