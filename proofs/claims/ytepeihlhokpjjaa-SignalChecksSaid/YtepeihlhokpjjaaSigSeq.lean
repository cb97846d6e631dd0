/- A range over a function whose iterator keeps cells of its own between two rounds, and whose rounds write the caller's cells and one row: a contract, and the caller's law. Conditions: each lemma names them. -/
import Derived.RangeFuncNested
import Derived.RangeFuncCalls
import Derived.RangeFuncLeaves
import Derived.Shelf.Abstract
import Derived.WalkKit
import Derived.OwnWalkIn
import Derived.TacticsInMore
import Derived.LoopNIn
import Derived.LoopIn
import Derived.Test.YtepeihlhokpjjaaProg
import Derived.Below
import Derived.Deep.Draws
import Derived.Deep.AppendLies
import Derived.Maps.AppendAt
import Derived.OwnWalk
import Derived.Laws.BytesArg
import Derived.Laws.MakeOwn
import Derived.Laws.OwnMore
import Derived.Deep.OwnRows
import Derived.Tactics
import Derived.Lib.ConvBytes
import Derived.Laws.Slices
import Derived.KernelRfl
import Derived.RowKit3
import Derived.Deep.LoopGhost
import Derived.Deep.QuietTactic
import Derived.BigQuiet
import Derived.WideLaws
import Derived.Deep.DeepCutAuto
import Derived.Deep.CutBlock
import Derived.Deep.RegionHeld3
import Derived.Laws.Rows
import Derived.Lib.AppendStr
import Derived.ArgAppend
import Derived.Laws.IdiomCopy
import Derived.OrdersHeld
import Derived.Laws.BitsLemmas
import Derived.RowKit
import Derived.Test.YtepeihlhokpjjaaWWords
import Derived.Test.YtepeihlhokpjjaaWLast
import Derived.Test.YtepeihlhokpjjaaWTab
import Derived.Test.YtepeihlhokpjjaaWFour
import Derived.Test.YtepeihlhokpjjaaWQPut
import Derived.Test.YtepeihlhokpjjaaWApart
import Derived.Test.YtepeihlhokpjjaaWArr
import Derived.Test.YtepeihlhokpjjaaWZeros
import Derived.Test.YtepeihlhokpjjaaWFoot
import Derived.Test.YtepeihlhokpjjaaWKept
import Derived.Test.YtepeihlhokpjjaaWShare
import Derived.Test.YtepeihlhokpjjaaWN
import Derived.Test.YtepeihlhokpjjaaWFootNe
import Derived.Test.YtepeihlhokpjjaaWAt
import Derived.Test.YtepeihlhokpjjaaWEqStruct
import Derived.Test.YtepeihlhokpjjaaWRepsOne
import Derived.Test.YtepeihlhokpjjaaWInv
import Derived.Test.YtepeihlhokpjjaaWInvWords
import Derived.Test.YtepeihlhokpjjaaWGuard
import Derived.Test.YtepeihlhokpjjaaWNEv
import Derived.Test.YtepeihlhokpjjaaWMore
namespace Go.Proofs.Ytepeihlhokpjjaa.P
open Go.RowKit
set_option linter.unusedVariables false
set_option linter.unusedSimpArgs false
/-- Nothing elder has changed but blocks of S. -/
structure ChS (S : Nat → Prop) (w w' : World) : Prop where
  os : w'.os = w.os
  tape : w'.tape = w.tape
  output : w'.output = w.output
  size : w.heap.size ≤ w'.heap.size
  keep : ∀ k, k < w.heap.size → ¬ S k → w'.heap[k]? = w.heap[k]?
theorem ChS.refl (S : Nat → Prop) (w : World) : ChS S w w := ⟨rfl, rfl, rfl, Nat.le_refl _, fun _ _ _ => rfl⟩
theorem ChS.trans {S : Nat → Prop} {a b c : World} (h : ChS S a b) (g : ChS S b c) : ChS S a c :=
  ⟨g.os.trans h.os, g.tape.trans h.tape, g.output.trans h.output, Nat.le_trans h.size g.size, fun k hk hs => (g.keep k (Nat.lt_of_lt_of_le hk h.size) hs).trans (h.keep k hk hs)⟩
theorem ChS.mono {S T : Nat → Prop} {a b : World} (h : ChS S a b) (hs : ∀ k, k < a.heap.size → S k → T k) : ChS T a b := ⟨h.os, h.tape, h.output, h.size, fun k hk ht => h.keep k hk (fun s => ht (hs k hk s))⟩
theorem ChS.grown {S : Nat → Prop} {a b c : World} {row : Option Nat} (h : ChS S a b) (g : b.grownBy c row) (hr : ∀ k, row = some k → k < a.heap.size → S k) : ChS S a c :=
  ⟨g.os.trans h.os, g.tape.trans h.tape, g.output.trans h.output, Nat.le_trans h.size g.size, fun k hk hs => (g.block k (Nat.lt_of_lt_of_le hk h.size) (fun e => hs (hr k e.symm hk))).trans (h.keep k hk hs)⟩
theorem ChS.below {S : Nat → Prop} {a b : World} {B : Nat} (h : ChS S a b) (hB : B ≤ a.heap.size) (hs : ∀ k, S k → B ≤ k) : Below B a b :=
  ⟨h.os, h.tape, h.output, h.size, fun k hk => h.keep k (by omega) (fun s => by have := hs k s; omega)⟩
theorem ChS.of {a b : World} (h : Below a.heap.size a b) (S : Nat → Prop) : ChS S a b := ⟨h.os, h.tape, h.output, h.size, fun k hk _ => h.block k hk⟩
theorem ChS.blk {S : Nat → Prop} {a b : World} (h : ChS S a b) {k : Nat} {o : Obj} (hk : a.heap[k]? = some o) (hs : ¬ S k) : b.heap[k]? = some o := (h.keep k (Array.getElem?_eq_some_iff.1 hk).1 hs).trans hk
/-- What a round may turn: blocks ahead of the loop but those that the iterator reads, and the caller's row. -/
def RoundS (B : Nat) (keepS : Nat → Prop) (g : Option Nat) (k : Nat) : Prop := (k < B ∧ ¬ keepS k) ∨ g = some k
/-- The iterator's contract: of each round it knows that the iterator's own blocks lie as they lay. g: the caller's row. -/
def SeqR {α : Type} (F : Fence) (n : Nat) (P : Program) (gf : Nat) (lb : Array Value) (encs : α → Array Value) (S : List α → Prop) (N : Nat) (keepS : Nat → Prop) (w : World) : Prop :=
  ∀ (l : Nat) (g0 : Option Nat) (J : Option Nat → List α → World → Prop) (W : World), (∀ k, keepS k → g0 ≠ some k) → Below w.heap.size w W → (∀ g, OwnFrom W.heap.size (J g)) → (∀ g pre A, J g pre A → ∀ k, g = some k → ∃ o : Obj, A.heap[k]? = some o ∧ o.isCells = true) →
    (∀ g pre x W1, J g pre W1 → pre.length < N → YieldAt F (n - 1) P l (encs x) W1 fun e W' =>
      e = .returned (.bool true) ∧ (∃ g', J g' (pre ++ [x]) W' ∧ (g' = g ∨ ∃ q, g' = some q ∧ W1.heap.size ≤ q)) ∧ ChS (RoundS W.heap.size keepS g) W1 W') →
    J g0 [] W →
    CallsIn F n P gf (#[.func (.yield l) #[] #[]] ++ lb) W fun e W' => (∃ v, e = .returned v) ∧ ∃ xs g, S xs ∧ J g xs W'
/-- How a round's body may be left: it goes on. m: where the heap ended when the round began. -/
def postR {α : Type} (B m : Nat) (keepS : Nat → Prop) (I : Option Nat → List α → World → Prop) (g : Option Nat) (xs : List α) (W : World) : Exit → Act → World → Prop
  | .normal, _, W' => (∃ g', I g' xs W' ∧ (g' = g ∨ ∃ q, g' = some q ∧ m ≤ q)) ∧ ChS (fun k => RoundS B keepS g k ∨ m ≤ k) W W'
  | _, _, _ => False
theorem wpIn_rangeFunc_R {F : Fence} {n : Nat} {P : Program} {α : Type} {go : Operand} {ps : Array Tmp} {assign body : Code} {Q : Exit → Act → World → Prop} {a : Act} {w : World}
    (hro : F.round = none) (h1 : 1 ≤ n) {gf : Nat} {lb : Array Value} (hg : a.eval go = .func (.func gf) #[] lb) (hFg : F.fn gf) (eg : ∀ args w, (callFunc gf args).run P w = .ok (.enter gf args) w)
    {encs : α → Array Value} {S : List α → Prop} {N : Nat} {keepS : Nat → Prop} {w0 : World} (hseq : SeqR F (n - 1) P gf lb encs S N keepS w0) (hb0 : Below w0.heap.size w0 w) (hks : ∀ k, keepS k → k < w.heap.size) (hps : ∀ x, (encs x).size = ps.size)
    (I : Option Nat → List α → World → Prop) (hI : ∀ g, OwnFrom w.heap.size (I g)) (hIc : ∀ g pre A, I g pre A → ∀ k, g = some k → ∃ o : Obj, A.heap[k]? = some o ∧ o.isCells = true) (g0 : Option Nat) (hg0 : ∀ k, keepS k → g0 ≠ some k) (h0 : I g0 [] w)
    (Ax : Nat → Option Nat → List α → α → Act → World → Prop) (hAx : ∀ m g pre x a', OwnFrom w.heap.size (fun (_ : Unit) W => Ax m g pre x a' W)) (hAxc : ∀ m g pre x a' A, Ax m g pre x a' A → ∀ k, g = some k → ∃ o : Obj, A.heap[k]? = some o ∧ o.isCells = true)
    (hassign : ∀ (l : Nat) (g : Option Nat) (pre : List α) (x : α) (W : World) (K : Act → World → Prop), w.heap.size ≤ W.heap.size → I g pre W → (∀ a' W', ChS (fun _ => False) W W' → Ax W.heap.size g pre x a' W' → K a' W') →
      assign.wpIn (F.inRound l) (n - 1 - 1) P (Exit.then K (fun _ _ _ => False)) { tmps := (ps.zip (encs x)).foldl (fun t (p, v) => t.setIfInBounds p v) a.tmps, defers := [] } W)
    (hbody : ∀ (l m : Nat) (g : Option Nat) (pre : List α) (x : α) (a' : Act) (W : World), w.heap.size + 2 ≤ m → m ≤ W.heap.size → Ax m g pre x a' W → pre.length < N → body.wpIn (F.inRound l) (n - 1 - 1) P (postR w.heap.size m keepS I g (pre ++ [x]) W) a' W)
    (hdone : ∀ (D : Nat) (g : Option Nat) (xs : List α) (W : World), w.heap.size ≤ D → S xs → I g xs W → W.heap[D]? = some (.deferred (some [])) → Q .normal { a with defers := { target := .collected D, args := #[] } :: a.defers } W) :
    (Code.rangeFunc go ps assign body).wpIn F n P Q a w := by
  refine wpIn_rangeFunc fun fn hfn => ?_
  rw [hro]
  -- the record, by its state
  let R : LoopState → Option Code → Obj := fun st pe => .loop { state := st, pending := pe, fn, tmps := a.tmps, params := ps, assign, body, defers := w.heap.size }
  have hnc : ∀ st pe, (R st pe).isCells = false := fun _ _ => rfl
  obtain ⟨W1, hW1⟩ : ∃ W1, (w.alloc (.deferred (some []))).alloc (R .ready none) = W1 := ⟨_, rfl⟩
  have hs1 : W1.heap.size = w.heap.size + 2 := by rw [← hW1]; simp
  have hL1 : W1.heap[w.heap.size + 1]? = some (R .ready none) := by
    have := World.alloc_heap_new (w.alloc (.deferred (some []))) (R .ready none)
    rw [World.size_alloc, hW1] at this
    exact this
  have hD1 : W1.heap[w.heap.size]? = some (.deferred (some [])) := by
    rw [← hW1]
    exact (Below.heap_alloc _ _ _ (by simp)).trans (World.alloc_heap_new w _)
  have hI1 : I g0 [] W1 := by rw [← hW1]; exact (hI g0).alloc _ ((hI g0).alloc _ h0)
  have hb1 : Below w0.heap.size w0 W1 := by
    rw [← hW1]
    exact (hb0.alloc hb0.size _).alloc (by simp; exact Nat.le_succ_of_le hb0.size) _
  refine ⟨w.heap.size + 1, [{ target := .collected w.heap.size, args := #[] }], W1, { target := .fn (.func gf) lb, args := #[.func (.yield (w.heap.size + 1)) #[] #[]] }, W1, gf, #[.func (.yield (w.heap.size + 1)) #[] #[]] ++ lb, W1, ?_, ?_, ?_, ?_, fun _ => h1, ?_⟩
  · rw [← hW1]
    exact run_enterLoop_outer _ _ _ _ _
  · simp only [resolve, hg]
    simp [go_sem]
  · intro f' hf'
    simp [Target.leads] at hf'
    subst hf'
    exact hFg
  · simp [invoke, go_sem, eg]
  · have big : ∀ {A : World} {row : Option Nat}, (∀ r, row = some r → W1.heap.size ≤ r ∧ ∃ o : Obj, A.heap[r]? = some o ∧ o.isCells = false) → (∀ r, row = some r → w.heap.size ≤ r ∧ ∃ o : Obj, A.heap[r]? = some o ∧ o.isCells = false) :=
      fun hr r e => ⟨by have := (hr r e).1; omega, (hr r e).2⟩
    have stay : ∀ {A B : World} {row : Option Nat} {k : Nat} {o : Obj}, A.grownBy B row → (∀ r, row = some r → W1.heap.size ≤ r ∧ ∃ o : Obj, A.heap[r]? = some o ∧ o.isCells = false) → k < W1.heap.size → A.heap[k]? = some o → B.heap[k]? = some o :=
      fun hg' hr hk ho => (hg'.block _ (Array.getElem?_eq_some_iff.1 ho).1 (fun e => by have := (hr _ e.symm).1; omega)).trans ho
    refine (hseq (w.heap.size + 1) g0 (fun g pre W => I g pre W ∧ W.heap[w.heap.size + 1]? = some (R .ready none) ∧ W.heap[w.heap.size]? = some (.deferred (some []))) W1 hg0 hb1 (fun g s A B row hs hg' hr => ⟨hI g s A B row hs.1 hg' (big (A := A) hr), stay hg' hr (by omega) hs.2.1, stay hg' hr (by omega) hs.2.2⟩)
      (fun g pre A hJ => hIc g pre A hJ.1) ?_ ⟨hI1, hL1, hD1⟩).mono ?_
    · -- one round
      rintro g pre x W ⟨hi, hl, hk⟩ hlen
      have hlt : w.heap.size + 1 < W.heap.size := (Array.getElem?_eq_some_iff.1 hl).1
      have hsm : w.heap.size + 2 ≤ W.heap.size := hlt
      have hy := run_yield (P := P) (args := encs x) hl (hps x)
      refine ⟨fn, _, assign, body, hy, roundIn_of_wpIn hfn (hassign _ g pre x W _ (by omega) hi ?_)⟩
      intro a' Wa hca hax
      have hla := hca.blk hl (fun h => h)
      have hka := hca.blk hk (fun h => h)
      have hlta : w.heap.size + 1 < Wa.heap.size := (Array.getElem?_eq_some_iff.1 hla).1
      refine ⟨_, run_beginRound hla rfl, ?_⟩
      have hl2 : (Wa.putObj (w.heap.size + 1) (R .busy none)).heap[w.heap.size + 1]? = some (R .busy none) := World.putObj_heap_same hlta
      have hk2 : (Wa.putObj (w.heap.size + 1) (R .busy none)).heap[w.heap.size]? = some (.deferred (some [])) := (World.putObj_heap_other (by omega)).trans hka
      have hax2 := (hAx _ g pre x a').putObj (s := ()) (R .busy none) hax (by omega) hla rfl
      refine wpIn_mono (hbody _ W.heap.size g pre x a' _ hsm (by rw [World.putObj_size]; exact hca.size) hax2 hlen) ?_
      have c1 : ChS (RoundS W1.heap.size keepS g) W (Wa.putObj (w.heap.size + 1) (R .busy none)) :=
        (hca.mono (fun k _ h => h.elim)).grown (grownBy_putObj' _ _ _) (fun k e _ => by cases e; exact .inl ⟨by omega, fun hs => by have := hks _ hs; omega⟩)
      intro e a3 W3 hp
      cases e with
      | normal =>
        obtain ⟨⟨g', hg', hgg⟩, hc3⟩ := hp
        have nl : ¬ (RoundS w.heap.size keepS g (w.heap.size + 1) ∨ W.heap.size ≤ w.heap.size + 1) := fun q => by
          rcases q with (⟨q, _⟩ | q) | q
          · omega
          · obtain ⟨o, ho, hoc⟩ := hAxc _ g pre x a' _ hax2 _ q
            rw [hl2] at ho
            cases ho
            cases hoc
          · omega
        have nd : ¬ (RoundS w.heap.size keepS g w.heap.size ∨ W.heap.size ≤ w.heap.size) := fun q => by
          rcases q with (⟨q, _⟩ | q) | q
          · omega
          · obtain ⟨o, ho, hoc⟩ := hAxc _ g pre x a' _ hax2 _ q
            rw [hk2] at ho
            cases ho
            cases hoc
          · omega
        have hl3 := hc3.blk hl2 nl
        have hk3 := hc3.blk hk2 nd
        have hlt3 : w.heap.size + 1 < W3.heap.size := (Array.getElem?_eq_some_iff.1 hl3).1
        have hr := run_endRound (P := P) none hl3
        refine ⟨_, _, hr, rfl, ⟨g', ⟨(hI g').putObj _ hg' (by omega) hl3 rfl, World.putObj_heap_same hlt3, (World.putObj_heap_other (by omega)).trans hk3⟩, ?_⟩, ?_⟩
        · rcases hgg with rfl | ⟨q, rfl, hq⟩
          · exact .inl rfl
          · exact .inr ⟨q, rfl, hq⟩
        · have c3 : ChS (RoundS W1.heap.size keepS g) W W3 := ⟨hc3.os.trans c1.os, hc3.tape.trans c1.tape, hc3.output.trans c1.output, Nat.le_trans c1.size hc3.size, fun k hk hs => (hc3.keep k (Nat.lt_of_lt_of_le hk c1.size) (fun q => by
            rcases q with (⟨q1, q2⟩ | q) | q
            · exact hs (.inl ⟨by omega, q2⟩)
            · exact hs (.inr q)
            · omega)).trans (c1.keep k hk hs)⟩
          exact c3.grown (grownBy_putObj' _ _ _) (fun k e _ => by cases e; exact .inl ⟨by omega, fun hs => by have := hks _ hs; omega⟩)
      | ret => exact hp.elim
      | exit id => exact hp.elim
      | goto t => exact hp.elim
      | panic ch => exact hp.elim
      | outgrown => exact hp.elim
    · -- behind the iterator
      rintro e W2 ⟨⟨v, rfl⟩, xs, g, hS, hi, hl, hk⟩
      refine ⟨none, _, run_endLoop (P := P) hl (by simp), ?_⟩
      exact hdone _ g xs _ (Nat.le_refl _) hS ((hI g).putObj _ hi (by omega) hl rfl) ((World.putObj_heap_other (by omega)).trans hk)
end Go.Proofs.Ytepeihlhokpjjaa.P
