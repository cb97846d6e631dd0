/-
  No cell of these rows narrows 'for every input' (looked for: loops, veiled, ifaces, maps, wideKeys, modest, calm, conditions, laid).
  DERIVED. THE GIVEN ROWS OF THIS SEAT. 4 by the template 'for every input the law returns true; each argument reads behind the call as it read before'; 0 by the template 'total and deterministic' (their statements: YtjnllejfgljkdaaTotals.lean).
  GIVEN WITH THE SEED: the statements are not yours to turn. If you find one false, say at which input.
  Laid BY PROGRAM, IN A SANDBOX (cutbox-rows.mjs): the forced cells as the released guide's own fill.sh prints them over the translation 818c99acfa7f3944… (all of the seat's roots in one cut). By AI agents, Wed Nov 11 2026. No macro, syntax, notation, axiom, sorry.
-/
import Derived.Test.YtjnllejfgljkdaaChecked
import GoSem.Claim
import GoSem.ClaimJoined
import GoSem.ClaimMapViews
import Derived.JoinedTies
import Derived.KernelRfl
namespace Go.Proofs.Ytjnllejfgljkdaa
/- THE CELL 'sum', in the pinned program and in every row, IS THE sha256 OF THE DUMP (.gsa) THAT YtjnllejfgljkdaaProg.lean LOADS. Nothing in Lean hashes anything: it is a label: what it is worth is what the hold of that sum in a sandbox is worth. -/
noncomputable def Try.pinned : Pinned := { name := "ytjnllejfgljkdaa", sum := "818c99acfa7f39440b2a904c8a3e55b0929485f83ea8123612b9135292112479", checked := Try.checked }
namespace Rows
def none {H : Type} : Left H := { results := [], args := [] }

/-- 'bellbuoylaw19.AccordBounds': WHATEVER THE INPUT: true; the input reads as it did. -/
def accordBoundsSpec : ChangeSpec := { name := "accordBounds", fn := fun _ => fun
  | [d1, d2] => { results := [.lit (.bool true)], args := [d1, d2] }
  | _ => none }
def accordBoundsRow : OpenClaim := { program := "ytjnllejfgljkdaa", sum := "818c99acfa7f39440b2a904c8a3e55b0929485f83ea8123612b9135292112479", func := "bellbuoy/bellbuoylaw19.AccordBounds", spec := "accordBounds", inPlace := ["math/bits.Add64"], unfollowed := true, recurses := true, named := ["math/bits.divideError", "math/bits.overflowError"], apart := false }
def AccordBoundsSaid : Prop := accordBoundsRow.holds Try.pinned (OpenSpec.ofChange accordBoundsSpec)

/-- ITS FALSE NEIGHBOUR: 'it returns false'. Refute it at one input. -/
def accordBoundsWrong : ChangeSpec := { name := "accordBounds", fn := fun _ => fun
  | [d1, d2] => { results := [.lit (.bool false)], args := [d1, d2] }
  | _ => none }
def AccordBoundsWrongFalsely : Prop := accordBoundsRow.holds Try.pinned (OpenSpec.ofChange accordBoundsWrong)

/-- 'bellbuoylaw19.AccordPlays': WHATEVER THE INPUT: true; the input reads as it did. -/
def accordPlaysSpec : ChangeSpec := { name := "accordPlays", fn := fun _ => fun
  | [d1, d2, d3] => { results := [.lit (.bool true)], args := [d1, d2, d3] }
  | _ => none }
def accordPlaysRow : OpenClaim := { program := "ytjnllejfgljkdaa", sum := "818c99acfa7f39440b2a904c8a3e55b0929485f83ea8123612b9135292112479", func := "bellbuoy/bellbuoylaw19.AccordPlays", spec := "accordPlays", inPlace := ["math/bits.Add64"], unfollowed := true, recurses := true, named := ["math/bits.divideError", "math/bits.overflowError"], apart := false }
def AccordPlaysSaid : Prop := accordPlaysRow.holds Try.pinned (OpenSpec.ofChange accordPlaysSpec)

/-- ITS FALSE NEIGHBOUR: 'it returns false'. Refute it at one input. -/
def accordPlaysWrong : ChangeSpec := { name := "accordPlays", fn := fun _ => fun
  | [d1, d2, d3] => { results := [.lit (.bool false)], args := [d1, d2, d3] }
  | _ => none }
def AccordPlaysWrongFalsely : Prop := accordPlaysRow.holds Try.pinned (OpenSpec.ofChange accordPlaysWrong)

/-- 'bellbuoylaw19.AccordHolds': WHATEVER THE INPUT: true; the input reads as it did. -/
def accordHoldsSpec : ChangeSpec := { name := "accordHolds", fn := fun _ => fun
  | [d1, d2, d3] => { results := [.lit (.bool true)], args := [d1, d2, d3] }
  | _ => none }
def accordHoldsRow : OpenClaim := { program := "ytjnllejfgljkdaa", sum := "818c99acfa7f39440b2a904c8a3e55b0929485f83ea8123612b9135292112479", func := "bellbuoy/bellbuoylaw19.AccordHolds", spec := "accordHolds", inPlace := ["math/bits.Add64"], unfollowed := true, recurses := true, named := ["math/bits.divideError", "math/bits.overflowError"], apart := false }
def AccordHoldsSaid : Prop := accordHoldsRow.holds Try.pinned (OpenSpec.ofChange accordHoldsSpec)

/-- ITS FALSE NEIGHBOUR: 'it returns false'. Refute it at one input. -/
def accordHoldsWrong : ChangeSpec := { name := "accordHolds", fn := fun _ => fun
  | [d1, d2, d3] => { results := [.lit (.bool false)], args := [d1, d2, d3] }
  | _ => none }
def AccordHoldsWrongFalsely : Prop := accordHoldsRow.holds Try.pinned (OpenSpec.ofChange accordHoldsWrong)

/-- 'bellbuoylaw19.AccordRises': WHATEVER THE INPUT: true; the input reads as it did. -/
def accordRisesSpec : ChangeSpec := { name := "accordRises", fn := fun _ => fun
  | [d1, d2, d3] => { results := [.lit (.bool true)], args := [d1, d2, d3] }
  | _ => none }
def accordRisesRow : OpenClaim := { program := "ytjnllejfgljkdaa", sum := "818c99acfa7f39440b2a904c8a3e55b0929485f83ea8123612b9135292112479", func := "bellbuoy/bellbuoylaw19.AccordRises", spec := "accordRises", inPlace := ["math/bits.Add64"], unfollowed := true, recurses := true, named := ["math/bits.divideError", "math/bits.overflowError"], apart := false }
def AccordRisesSaid : Prop := accordRisesRow.holds Try.pinned (OpenSpec.ofChange accordRisesSpec)

/-- ITS FALSE NEIGHBOUR: 'it returns false'. Refute it at one input. -/
def accordRisesWrong : ChangeSpec := { name := "accordRises", fn := fun _ => fun
  | [d1, d2, d3] => { results := [.lit (.bool false)], args := [d1, d2, d3] }
  | _ => none }
def AccordRisesWrongFalsely : Prop := accordRisesRow.holds Try.pinned (OpenSpec.ofChange accordRisesWrong)

/- THE SECOND FORM. 'bulk': how many values and letters a reading holds, each counted each time it is reached (what is shared counts as often as it is met; a slice's spare places count too). A statement '..UptoSaid' is the law's where the arguments, and the package variables that the reading takes, are together of bulk at most 1048576: NARROWER than '..Said'. Prove '..Said' where nothing that the law and all that it calls make is longer than what came in: it says more and counts as full. Else prove '..UptoSaid'. A law counts once. -/
mutual
def uptoBulk {H : Type} : DataW H → Nat
  | .lit (.string bytes) => bytes.length + 1
  | .lit _ => 1
  | .nil => 1
  | .ptr d => uptoBulk d + 1
  | .slice elems spare => uptoBulkAll elems + uptoBulkAll spare + 1
  | .agg parts => uptoBulkAll parts + 1
  | .iface _ d => uptoBulk d + 1
  | .map entries => uptoBulkEntries entries + 1
  | .held _ => 1
def uptoBulkAll {H : Type} : List (DataW H) → Nat
  | [] => 0
  | d :: r => uptoBulk d + uptoBulkAll r
def uptoBulkEntries {H : Type} : List (Lit × DataW H) → Nat
  | [] => 0
  | x :: r => uptoBulkEntry x + uptoBulkEntries r
def uptoBulkEntry {H : Type} : Lit × DataW H → Nat
  | (.string bytes, d) => bytes.length + uptoBulk d + 1
  | (_, d) => uptoBulk d + 1
 end
def uptoSmall : (H : Type) → List (DataW H) → Bool := fun _ ds => decide (uptoBulkAll ds ≤ 1048576)
def OpenSpec.upto (s : _root_.Go.ChangeSpec) : _root_.Go.OpenSpec := { _root_.Go.OpenSpec.ofChange s with cond := some uptoSmall }

/-- 'bellbuoylaw19.AccordBounds', WHERE WHAT IT READS IS OF BULK AT MOST 1048576: true; the input reads as it did. -/
def accordBoundsUptoRow : OpenClaim := { program := "ytjnllejfgljkdaa", sum := "818c99acfa7f39440b2a904c8a3e55b0929485f83ea8123612b9135292112479", func := "bellbuoy/bellbuoylaw19.AccordBounds", spec := "accordBounds", inPlace := ["math/bits.Add64"], unfollowed := true, recurses := true, named := ["math/bits.divideError", "math/bits.overflowError"], apart := false, narrowed := true }
def AccordBoundsUptoSaid : Prop := accordBoundsUptoRow.holds Try.pinned (OpenSpec.upto accordBoundsSpec)

/-- 'bellbuoylaw19.AccordPlays', WHERE WHAT IT READS IS OF BULK AT MOST 1048576: true; the input reads as it did. -/
def accordPlaysUptoRow : OpenClaim := { program := "ytjnllejfgljkdaa", sum := "818c99acfa7f39440b2a904c8a3e55b0929485f83ea8123612b9135292112479", func := "bellbuoy/bellbuoylaw19.AccordPlays", spec := "accordPlays", inPlace := ["math/bits.Add64"], unfollowed := true, recurses := true, named := ["math/bits.divideError", "math/bits.overflowError"], apart := false, narrowed := true }
def AccordPlaysUptoSaid : Prop := accordPlaysUptoRow.holds Try.pinned (OpenSpec.upto accordPlaysSpec)

/-- 'bellbuoylaw19.AccordHolds', WHERE WHAT IT READS IS OF BULK AT MOST 1048576: true; the input reads as it did. -/
def accordHoldsUptoRow : OpenClaim := { program := "ytjnllejfgljkdaa", sum := "818c99acfa7f39440b2a904c8a3e55b0929485f83ea8123612b9135292112479", func := "bellbuoy/bellbuoylaw19.AccordHolds", spec := "accordHolds", inPlace := ["math/bits.Add64"], unfollowed := true, recurses := true, named := ["math/bits.divideError", "math/bits.overflowError"], apart := false, narrowed := true }
def AccordHoldsUptoSaid : Prop := accordHoldsUptoRow.holds Try.pinned (OpenSpec.upto accordHoldsSpec)

/-- 'bellbuoylaw19.AccordRises', WHERE WHAT IT READS IS OF BULK AT MOST 1048576: true; the input reads as it did. -/
def accordRisesUptoRow : OpenClaim := { program := "ytjnllejfgljkdaa", sum := "818c99acfa7f39440b2a904c8a3e55b0929485f83ea8123612b9135292112479", func := "bellbuoy/bellbuoylaw19.AccordRises", spec := "accordRises", inPlace := ["math/bits.Add64"], unfollowed := true, recurses := true, named := ["math/bits.divideError", "math/bits.overflowError"], apart := false, narrowed := true }
def AccordRisesUptoSaid : Prop := accordRisesUptoRow.holds Try.pinned (OpenSpec.upto accordRisesSpec)

end Rows
end Go.Proofs.Ytjnllejfgljkdaa
