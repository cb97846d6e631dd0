/-
  No cell of these rows narrows 'for every input' (looked for: loops, veiled, ifaces, maps, wideKeys, modest, calm, conditions, laid).
  DERIVED. THE GIVEN ROWS OF THIS SEAT. 6 by the template 'for every input the law returns true; each argument reads behind the call as it read before'; 0 by the template 'total and deterministic' (their statements: YtpcfgommikclcaaTotals.lean).
  GIVEN WITH THE SEED: the statements are not yours to turn. If you find one false, say at which input.
  Laid BY PROGRAM, IN A SANDBOX (cutbox-rows.mjs): the forced cells as the released guide's own fill.sh prints them over the translation d09ac82135537ac6… (all of the seat's roots in one cut). By AI agents, Wed Nov 11 2026. No macro, syntax, notation, axiom, sorry.
-/
import Derived.Test.YtpcfgommikclcaaChecked
import GoSem.Claim
import GoSem.ClaimJoined
import GoSem.ClaimMapViews
import Derived.JoinedTies
import Derived.KernelRfl
namespace Go.Proofs.Ytpcfgommikclcaa
/- THE CELL 'sum', in the pinned program and in every row, IS THE sha256 OF THE DUMP (.gsa) THAT YtpcfgommikclcaaProg.lean LOADS. Nothing in Lean hashes anything: it is a label: what it is worth is what the hold of that sum in a sandbox is worth. -/
noncomputable def Try.pinned : Pinned := { name := "ytpcfgommikclcaa", sum := "d09ac82135537ac660784c214a37cf76f2d3351e3df2bd8fb7cb63b3bcb4236b", checked := Try.checked }
namespace Rows
def none {H : Type} : Left H := { results := [], args := [] }

/-- 'bellbuoylaw01.ExactScales': WHATEVER THE INPUT: true; the input reads as it did. -/
def exactScalesSpec : ChangeSpec := { name := "exactScales", fn := fun _ => fun
  | [d1, d2, d3] => { results := [.lit (.bool true)], args := [d1, d2, d3] }
  | _ => none }
def exactScalesRow : OpenClaim := { program := "ytpcfgommikclcaa", sum := "d09ac82135537ac660784c214a37cf76f2d3351e3df2bd8fb7cb63b3bcb4236b", func := "bellbuoy/bellbuoylaw01.ExactScales", spec := "exactScales", inPlace := ["math/bits.Add64"], named := ["math/bits.divideError", "math/bits.overflowError"], apart := false }
def ExactScalesSaid : Prop := exactScalesRow.holds Try.pinned (OpenSpec.ofChange exactScalesSpec)

/-- ITS FALSE NEIGHBOUR: 'it returns false'. Refute it at one input. -/
def exactScalesWrong : ChangeSpec := { name := "exactScales", fn := fun _ => fun
  | [d1, d2, d3] => { results := [.lit (.bool false)], args := [d1, d2, d3] }
  | _ => none }
def ExactScalesWrongFalsely : Prop := exactScalesRow.holds Try.pinned (OpenSpec.ofChange exactScalesWrong)

/-- 'bellbuoylaw01.ExactSame': WHATEVER THE INPUT: true; the input reads as it did. -/
def exactSameSpec : ChangeSpec := { name := "exactSame", fn := fun _ => fun
  | [d1, d2] => { results := [.lit (.bool true)], args := [d1, d2] }
  | _ => none }
def exactSameRow : OpenClaim := { program := "ytpcfgommikclcaa", sum := "d09ac82135537ac660784c214a37cf76f2d3351e3df2bd8fb7cb63b3bcb4236b", func := "bellbuoy/bellbuoylaw01.ExactSame", spec := "exactSame", inPlace := ["math/bits.Add64"], named := ["math/bits.divideError", "math/bits.overflowError"], apart := false }
def ExactSameSaid : Prop := exactSameRow.holds Try.pinned (OpenSpec.ofChange exactSameSpec)

/-- ITS FALSE NEIGHBOUR: 'it returns false'. Refute it at one input. -/
def exactSameWrong : ChangeSpec := { name := "exactSame", fn := fun _ => fun
  | [d1, d2] => { results := [.lit (.bool false)], args := [d1, d2] }
  | _ => none }
def ExactSameWrongFalsely : Prop := exactSameRow.holds Try.pinned (OpenSpec.ofChange exactSameWrong)

/-- 'bellbuoylaw01.ExactBack': WHATEVER THE INPUT: true; the input reads as it did. -/
def exactBackSpec : ChangeSpec := { name := "exactBack", fn := fun _ => fun
  | [d1, d2] => { results := [.lit (.bool true)], args := [d1, d2] }
  | _ => none }
def exactBackRow : OpenClaim := { program := "ytpcfgommikclcaa", sum := "d09ac82135537ac660784c214a37cf76f2d3351e3df2bd8fb7cb63b3bcb4236b", func := "bellbuoy/bellbuoylaw01.ExactBack", spec := "exactBack", inPlace := ["math/bits.Add64"], named := ["math/bits.divideError", "math/bits.overflowError"], apart := false }
def ExactBackSaid : Prop := exactBackRow.holds Try.pinned (OpenSpec.ofChange exactBackSpec)

/-- ITS FALSE NEIGHBOUR: 'it returns false'. Refute it at one input. -/
def exactBackWrong : ChangeSpec := { name := "exactBack", fn := fun _ => fun
  | [d1, d2] => { results := [.lit (.bool false)], args := [d1, d2] }
  | _ => none }
def ExactBackWrongFalsely : Prop := exactBackRow.holds Try.pinned (OpenSpec.ofChange exactBackWrong)

/-- 'bellbuoylaw01.ExactParts': WHATEVER THE INPUT: true; the input reads as it did. -/
def exactPartsSpec : ChangeSpec := { name := "exactParts", fn := fun _ => fun
  | [d1, d2, d3] => { results := [.lit (.bool true)], args := [d1, d2, d3] }
  | _ => none }
def exactPartsRow : OpenClaim := { program := "ytpcfgommikclcaa", sum := "d09ac82135537ac660784c214a37cf76f2d3351e3df2bd8fb7cb63b3bcb4236b", func := "bellbuoy/bellbuoylaw01.ExactParts", spec := "exactParts", inPlace := ["math/bits.Add64"], named := ["math/bits.divideError", "math/bits.overflowError"], apart := false }
def ExactPartsSaid : Prop := exactPartsRow.holds Try.pinned (OpenSpec.ofChange exactPartsSpec)

/-- ITS FALSE NEIGHBOUR: 'it returns false'. Refute it at one input. -/
def exactPartsWrong : ChangeSpec := { name := "exactParts", fn := fun _ => fun
  | [d1, d2, d3] => { results := [.lit (.bool false)], args := [d1, d2, d3] }
  | _ => none }
def ExactPartsWrongFalsely : Prop := exactPartsRow.holds Try.pinned (OpenSpec.ofChange exactPartsWrong)

/-- 'bellbuoylaw01.ExactWithin': WHATEVER THE INPUT: true; the input reads as it did. -/
def exactWithinSpec : ChangeSpec := { name := "exactWithin", fn := fun _ => fun
  | [d1, d2, d3] => { results := [.lit (.bool true)], args := [d1, d2, d3] }
  | _ => none }
def exactWithinRow : OpenClaim := { program := "ytpcfgommikclcaa", sum := "d09ac82135537ac660784c214a37cf76f2d3351e3df2bd8fb7cb63b3bcb4236b", func := "bellbuoy/bellbuoylaw01.ExactWithin", spec := "exactWithin", inPlace := ["math/bits.Add64"], named := ["math/bits.divideError", "math/bits.overflowError"], apart := false }
def ExactWithinSaid : Prop := exactWithinRow.holds Try.pinned (OpenSpec.ofChange exactWithinSpec)

/-- ITS FALSE NEIGHBOUR: 'it returns false'. Refute it at one input. -/
def exactWithinWrong : ChangeSpec := { name := "exactWithin", fn := fun _ => fun
  | [d1, d2, d3] => { results := [.lit (.bool false)], args := [d1, d2, d3] }
  | _ => none }
def ExactWithinWrongFalsely : Prop := exactWithinRow.holds Try.pinned (OpenSpec.ofChange exactWithinWrong)

/-- 'bellbuoylaw01.ExactSums': WHATEVER THE INPUT: true; the input reads as it did. -/
def exactSumsSpec : ChangeSpec := { name := "exactSums", fn := fun _ => fun
  | [d1, d2] => { results := [.lit (.bool true)], args := [d1, d2] }
  | _ => none }
def exactSumsRow : OpenClaim := { program := "ytpcfgommikclcaa", sum := "d09ac82135537ac660784c214a37cf76f2d3351e3df2bd8fb7cb63b3bcb4236b", func := "bellbuoy/bellbuoylaw01.ExactSums", spec := "exactSums", inPlace := ["math/bits.Add64"], named := ["math/bits.divideError", "math/bits.overflowError"], apart := false }
def ExactSumsSaid : Prop := exactSumsRow.holds Try.pinned (OpenSpec.ofChange exactSumsSpec)

/-- ITS FALSE NEIGHBOUR: 'it returns false'. Refute it at one input. -/
def exactSumsWrong : ChangeSpec := { name := "exactSums", fn := fun _ => fun
  | [d1, d2] => { results := [.lit (.bool false)], args := [d1, d2] }
  | _ => none }
def ExactSumsWrongFalsely : Prop := exactSumsRow.holds Try.pinned (OpenSpec.ofChange exactSumsWrong)

/- THE SECOND FORM. 'bulk': how many values and letters a reading holds, each counted each time it is reached (what is shared counts as often as it is met; a slice's spare places count too). A statement '..UptoSaid' is the law's where the arguments, and the package variables that the reading takes, are together of bulk at most 1048576: NARROWER than '..Said'. Prove '..Said' where nothing that the law and all that it calls make is longer than what came in: it says more and counts as full. Else prove '..UptoSaid'. A law counts once. -/
mutual
def uptoBulk {H : Type} : DataW H → Nat
  | .lit (.string bytes) => bytes.length + 1
  | .lit _ => 1
  | .nil => 1
  | .ptr d => uptoBulk d + 1
  | .slice elems spare => uptoBulkAll elems + uptoBulkAll spare + 1
  | .agg parts => uptoBulkAll parts + 1
  | .iface _ d => uptoBulk d + 1
  | .map entries => uptoBulkEntries entries + 1
  | .held _ => 1
def uptoBulkAll {H : Type} : List (DataW H) → Nat
  | [] => 0
  | d :: r => uptoBulk d + uptoBulkAll r
def uptoBulkEntries {H : Type} : List (Lit × DataW H) → Nat
  | [] => 0
  | x :: r => uptoBulkEntry x + uptoBulkEntries r
def uptoBulkEntry {H : Type} : Lit × DataW H → Nat
  | (.string bytes, d) => bytes.length + uptoBulk d + 1
  | (_, d) => uptoBulk d + 1
 end
def uptoSmall : (H : Type) → List (DataW H) → Bool := fun _ ds => decide (uptoBulkAll ds ≤ 1048576)
def OpenSpec.upto (s : _root_.Go.ChangeSpec) : _root_.Go.OpenSpec := { _root_.Go.OpenSpec.ofChange s with cond := some uptoSmall }

/-- 'bellbuoylaw01.ExactScales', WHERE WHAT IT READS IS OF BULK AT MOST 1048576: true; the input reads as it did. -/
def exactScalesUptoRow : OpenClaim := { program := "ytpcfgommikclcaa", sum := "d09ac82135537ac660784c214a37cf76f2d3351e3df2bd8fb7cb63b3bcb4236b", func := "bellbuoy/bellbuoylaw01.ExactScales", spec := "exactScales", inPlace := ["math/bits.Add64"], named := ["math/bits.divideError", "math/bits.overflowError"], apart := false, narrowed := true }
def ExactScalesUptoSaid : Prop := exactScalesUptoRow.holds Try.pinned (OpenSpec.upto exactScalesSpec)

/-- 'bellbuoylaw01.ExactSame', WHERE WHAT IT READS IS OF BULK AT MOST 1048576: true; the input reads as it did. -/
def exactSameUptoRow : OpenClaim := { program := "ytpcfgommikclcaa", sum := "d09ac82135537ac660784c214a37cf76f2d3351e3df2bd8fb7cb63b3bcb4236b", func := "bellbuoy/bellbuoylaw01.ExactSame", spec := "exactSame", inPlace := ["math/bits.Add64"], named := ["math/bits.divideError", "math/bits.overflowError"], apart := false, narrowed := true }
def ExactSameUptoSaid : Prop := exactSameUptoRow.holds Try.pinned (OpenSpec.upto exactSameSpec)

/-- 'bellbuoylaw01.ExactBack', WHERE WHAT IT READS IS OF BULK AT MOST 1048576: true; the input reads as it did. -/
def exactBackUptoRow : OpenClaim := { program := "ytpcfgommikclcaa", sum := "d09ac82135537ac660784c214a37cf76f2d3351e3df2bd8fb7cb63b3bcb4236b", func := "bellbuoy/bellbuoylaw01.ExactBack", spec := "exactBack", inPlace := ["math/bits.Add64"], named := ["math/bits.divideError", "math/bits.overflowError"], apart := false, narrowed := true }
def ExactBackUptoSaid : Prop := exactBackUptoRow.holds Try.pinned (OpenSpec.upto exactBackSpec)

/-- 'bellbuoylaw01.ExactParts', WHERE WHAT IT READS IS OF BULK AT MOST 1048576: true; the input reads as it did. -/
def exactPartsUptoRow : OpenClaim := { program := "ytpcfgommikclcaa", sum := "d09ac82135537ac660784c214a37cf76f2d3351e3df2bd8fb7cb63b3bcb4236b", func := "bellbuoy/bellbuoylaw01.ExactParts", spec := "exactParts", inPlace := ["math/bits.Add64"], named := ["math/bits.divideError", "math/bits.overflowError"], apart := false, narrowed := true }
def ExactPartsUptoSaid : Prop := exactPartsUptoRow.holds Try.pinned (OpenSpec.upto exactPartsSpec)

/-- 'bellbuoylaw01.ExactWithin', WHERE WHAT IT READS IS OF BULK AT MOST 1048576: true; the input reads as it did. -/
def exactWithinUptoRow : OpenClaim := { program := "ytpcfgommikclcaa", sum := "d09ac82135537ac660784c214a37cf76f2d3351e3df2bd8fb7cb63b3bcb4236b", func := "bellbuoy/bellbuoylaw01.ExactWithin", spec := "exactWithin", inPlace := ["math/bits.Add64"], named := ["math/bits.divideError", "math/bits.overflowError"], apart := false, narrowed := true }
def ExactWithinUptoSaid : Prop := exactWithinUptoRow.holds Try.pinned (OpenSpec.upto exactWithinSpec)

/-- 'bellbuoylaw01.ExactSums', WHERE WHAT IT READS IS OF BULK AT MOST 1048576: true; the input reads as it did. -/
def exactSumsUptoRow : OpenClaim := { program := "ytpcfgommikclcaa", sum := "d09ac82135537ac660784c214a37cf76f2d3351e3df2bd8fb7cb63b3bcb4236b", func := "bellbuoy/bellbuoylaw01.ExactSums", spec := "exactSums", inPlace := ["math/bits.Add64"], named := ["math/bits.divideError", "math/bits.overflowError"], apart := false, narrowed := true }
def ExactSumsUptoSaid : Prop := exactSumsUptoRow.holds Try.pinned (OpenSpec.upto exactSumsSpec)

end Rows
end Go.Proofs.Ytpcfgommikclcaa
