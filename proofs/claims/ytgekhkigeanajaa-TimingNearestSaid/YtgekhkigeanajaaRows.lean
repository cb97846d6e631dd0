/-
  No cell of these rows narrows 'for every input' (looked for: loops, veiled, ifaces, maps, wideKeys, modest, calm, conditions, laid).
  DERIVED. THE GIVEN ROWS OF THIS SEAT. 4 by the template 'for every input the law returns true; each argument reads behind the call as it read before'; 0 by the template 'total and deterministic' (their statements: YtgekhkigeanajaaTotals.lean).
  GIVEN WITH THE SEED: the statements are not yours to turn. If you find one false, say at which input.
  Laid BY PROGRAM, IN A SANDBOX (cutbox-rows.mjs): the forced cells as the released guide's own fill.sh prints them over the translation e1874483cb05ef16… (all of the seat's roots in one cut). By AI agents, Wed Nov 11 2026. No macro, syntax, notation, axiom, sorry.
-/
import Derived.Test.YtgekhkigeanajaaChecked
import GoSem.Claim
import GoSem.ClaimJoined
import GoSem.ClaimMapViews
import Derived.JoinedTies
import Derived.KernelRfl
namespace Go.Proofs.Ytgekhkigeanajaa
/- THE CELL 'sum', in the pinned program and in every row, IS THE sha256 OF THE DUMP (.gsa) THAT YtgekhkigeanajaaProg.lean LOADS. Nothing in Lean hashes anything: it is a label: what it is worth is what the hold of that sum in a sandbox is worth. -/
noncomputable def Try.pinned : Pinned := { name := "ytgekhkigeanajaa", sum := "e1874483cb05ef161772962f054f243d436d7dc9357a74938c6a02eb977e950d", checked := Try.checked }
namespace Rows
def none {H : Type} : Left H := { results := [], args := [] }

/-- 'bellbuoylaw36.TimingIs': WHATEVER THE INPUT: true; the input reads as it did. -/
def timingIsSpec : ChangeSpec := { name := "timingIs", fn := fun _ => fun
  | [d1, d2] => { results := [.lit (.bool true)], args := [d1, d2] }
  | _ => none }
def timingIsRow : OpenClaim := { program := "ytgekhkigeanajaa", sum := "e1874483cb05ef161772962f054f243d436d7dc9357a74938c6a02eb977e950d", func := "bellbuoy/bellbuoylaw36.TimingIs", spec := "timingIs", inPlace := ["math/bits.Add64"], unfollowed := true, recurses := true, named := ["math/bits.divideError", "math/bits.overflowError"], apart := false }
def TimingIsSaid : Prop := timingIsRow.holds Try.pinned (OpenSpec.ofChange timingIsSpec)

/-- ITS FALSE NEIGHBOUR: 'it returns false'. Refute it at one input. -/
def timingIsWrong : ChangeSpec := { name := "timingIs", fn := fun _ => fun
  | [d1, d2] => { results := [.lit (.bool false)], args := [d1, d2] }
  | _ => none }
def TimingIsWrongFalsely : Prop := timingIsRow.holds Try.pinned (OpenSpec.ofChange timingIsWrong)

/-- 'bellbuoylaw36.TimingFinds': WHATEVER THE INPUT: true; the input reads as it did. -/
def timingFindsSpec : ChangeSpec := { name := "timingFinds", fn := fun _ => fun
  | [d1, d2] => { results := [.lit (.bool true)], args := [d1, d2] }
  | _ => none }
def timingFindsRow : OpenClaim := { program := "ytgekhkigeanajaa", sum := "e1874483cb05ef161772962f054f243d436d7dc9357a74938c6a02eb977e950d", func := "bellbuoy/bellbuoylaw36.TimingFinds", spec := "timingFinds", inPlace := ["math/bits.Add64"], unfollowed := true, recurses := true, named := ["math/bits.divideError", "math/bits.overflowError"], apart := false }
def TimingFindsSaid : Prop := timingFindsRow.holds Try.pinned (OpenSpec.ofChange timingFindsSpec)

/-- ITS FALSE NEIGHBOUR: 'it returns false'. Refute it at one input. -/
def timingFindsWrong : ChangeSpec := { name := "timingFinds", fn := fun _ => fun
  | [d1, d2] => { results := [.lit (.bool false)], args := [d1, d2] }
  | _ => none }
def TimingFindsWrongFalsely : Prop := timingFindsRow.holds Try.pinned (OpenSpec.ofChange timingFindsWrong)

/-- 'bellbuoylaw36.TimingNearest': WHATEVER THE INPUT: true; the input reads as it did. -/
def timingNearestSpec : ChangeSpec := { name := "timingNearest", fn := fun _ => fun
  | [d1, d2, d3] => { results := [.lit (.bool true)], args := [d1, d2, d3] }
  | _ => none }
def timingNearestRow : OpenClaim := { program := "ytgekhkigeanajaa", sum := "e1874483cb05ef161772962f054f243d436d7dc9357a74938c6a02eb977e950d", func := "bellbuoy/bellbuoylaw36.TimingNearest", spec := "timingNearest", inPlace := ["math/bits.Add64"], unfollowed := true, recurses := true, named := ["math/bits.divideError", "math/bits.overflowError"], apart := false }
def TimingNearestSaid : Prop := timingNearestRow.holds Try.pinned (OpenSpec.ofChange timingNearestSpec)

/-- ITS FALSE NEIGHBOUR: 'it returns false'. Refute it at one input. -/
def timingNearestWrong : ChangeSpec := { name := "timingNearest", fn := fun _ => fun
  | [d1, d2, d3] => { results := [.lit (.bool false)], args := [d1, d2, d3] }
  | _ => none }
def TimingNearestWrongFalsely : Prop := timingNearestRow.holds Try.pinned (OpenSpec.ofChange timingNearestWrong)

/-- 'bellbuoylaw36.TimingScales': WHATEVER THE INPUT: true; the input reads as it did. -/
def timingScalesSpec : ChangeSpec := { name := "timingScales", fn := fun _ => fun
  | [d1, d2] => { results := [.lit (.bool true)], args := [d1, d2] }
  | _ => none }
def timingScalesRow : OpenClaim := { program := "ytgekhkigeanajaa", sum := "e1874483cb05ef161772962f054f243d436d7dc9357a74938c6a02eb977e950d", func := "bellbuoy/bellbuoylaw36.TimingScales", spec := "timingScales", inPlace := ["math/bits.Add64"], unfollowed := true, recurses := true, named := ["math/bits.divideError", "math/bits.overflowError"], apart := false }
def TimingScalesSaid : Prop := timingScalesRow.holds Try.pinned (OpenSpec.ofChange timingScalesSpec)

/-- ITS FALSE NEIGHBOUR: 'it returns false'. Refute it at one input. -/
def timingScalesWrong : ChangeSpec := { name := "timingScales", fn := fun _ => fun
  | [d1, d2] => { results := [.lit (.bool false)], args := [d1, d2] }
  | _ => none }
def TimingScalesWrongFalsely : Prop := timingScalesRow.holds Try.pinned (OpenSpec.ofChange timingScalesWrong)

/- THE SECOND FORM. 'bulk': how many values and letters a reading holds, each counted each time it is reached (what is shared counts as often as it is met; a slice's spare places count too). A statement '..UptoSaid' is the law's where the arguments, and the package variables that the reading takes, are together of bulk at most 1048576: NARROWER than '..Said'. Prove '..Said' where nothing that the law and all that it calls make is longer than what came in: it says more and counts as full. Else prove '..UptoSaid'. A law counts once. -/
mutual
def uptoBulk {H : Type} : DataW H → Nat
  | .lit (.string bytes) => bytes.length + 1
  | .lit _ => 1
  | .nil => 1
  | .ptr d => uptoBulk d + 1
  | .slice elems spare => uptoBulkAll elems + uptoBulkAll spare + 1
  | .agg parts => uptoBulkAll parts + 1
  | .iface _ d => uptoBulk d + 1
  | .map entries => uptoBulkEntries entries + 1
  | .held _ => 1
def uptoBulkAll {H : Type} : List (DataW H) → Nat
  | [] => 0
  | d :: r => uptoBulk d + uptoBulkAll r
def uptoBulkEntries {H : Type} : List (Lit × DataW H) → Nat
  | [] => 0
  | x :: r => uptoBulkEntry x + uptoBulkEntries r
def uptoBulkEntry {H : Type} : Lit × DataW H → Nat
  | (.string bytes, d) => bytes.length + uptoBulk d + 1
  | (_, d) => uptoBulk d + 1
 end
def uptoSmall : (H : Type) → List (DataW H) → Bool := fun _ ds => decide (uptoBulkAll ds ≤ 1048576)
def OpenSpec.upto (s : _root_.Go.ChangeSpec) : _root_.Go.OpenSpec := { _root_.Go.OpenSpec.ofChange s with cond := some uptoSmall }

/-- 'bellbuoylaw36.TimingIs', WHERE WHAT IT READS IS OF BULK AT MOST 1048576: true; the input reads as it did. -/
def timingIsUptoRow : OpenClaim := { program := "ytgekhkigeanajaa", sum := "e1874483cb05ef161772962f054f243d436d7dc9357a74938c6a02eb977e950d", func := "bellbuoy/bellbuoylaw36.TimingIs", spec := "timingIs", inPlace := ["math/bits.Add64"], unfollowed := true, recurses := true, named := ["math/bits.divideError", "math/bits.overflowError"], apart := false, narrowed := true }
def TimingIsUptoSaid : Prop := timingIsUptoRow.holds Try.pinned (OpenSpec.upto timingIsSpec)

/-- 'bellbuoylaw36.TimingFinds', WHERE WHAT IT READS IS OF BULK AT MOST 1048576: true; the input reads as it did. -/
def timingFindsUptoRow : OpenClaim := { program := "ytgekhkigeanajaa", sum := "e1874483cb05ef161772962f054f243d436d7dc9357a74938c6a02eb977e950d", func := "bellbuoy/bellbuoylaw36.TimingFinds", spec := "timingFinds", inPlace := ["math/bits.Add64"], unfollowed := true, recurses := true, named := ["math/bits.divideError", "math/bits.overflowError"], apart := false, narrowed := true }
def TimingFindsUptoSaid : Prop := timingFindsUptoRow.holds Try.pinned (OpenSpec.upto timingFindsSpec)

/-- 'bellbuoylaw36.TimingNearest', WHERE WHAT IT READS IS OF BULK AT MOST 1048576: true; the input reads as it did. -/
def timingNearestUptoRow : OpenClaim := { program := "ytgekhkigeanajaa", sum := "e1874483cb05ef161772962f054f243d436d7dc9357a74938c6a02eb977e950d", func := "bellbuoy/bellbuoylaw36.TimingNearest", spec := "timingNearest", inPlace := ["math/bits.Add64"], unfollowed := true, recurses := true, named := ["math/bits.divideError", "math/bits.overflowError"], apart := false, narrowed := true }
def TimingNearestUptoSaid : Prop := timingNearestUptoRow.holds Try.pinned (OpenSpec.upto timingNearestSpec)

/-- 'bellbuoylaw36.TimingScales', WHERE WHAT IT READS IS OF BULK AT MOST 1048576: true; the input reads as it did. -/
def timingScalesUptoRow : OpenClaim := { program := "ytgekhkigeanajaa", sum := "e1874483cb05ef161772962f054f243d436d7dc9357a74938c6a02eb977e950d", func := "bellbuoy/bellbuoylaw36.TimingScales", spec := "timingScales", inPlace := ["math/bits.Add64"], unfollowed := true, recurses := true, named := ["math/bits.divideError", "math/bits.overflowError"], apart := false, narrowed := true }
def TimingScalesUptoSaid : Prop := timingScalesUptoRow.holds Try.pinned (OpenSpec.upto timingScalesSpec)

end Rows
end Go.Proofs.Ytgekhkigeanajaa
