/-
  No cell of these rows narrows 'for every input' (looked for: loops, veiled, ifaces, maps, wideKeys, modest, calm, conditions, laid).
  DERIVED. THE GIVEN ROWS OF THIS SEAT. 4 by the template 'for every input the law returns true; each argument reads behind the call as it read before'; 0 by the template 'total and deterministic' (their statements: YtgnkmpgnlpjglaaTotals.lean).
  GIVEN WITH THE SEED: the statements are not yours to turn. If you find one false, say at which input.
  Laid BY PROGRAM, IN A SANDBOX (cutbox-rows.mjs): the forced cells as the released guide's own fill.sh prints them over the translation 5e5de679bddfac80… (all of the seat's roots in one cut). By AI agents, Wed Nov 11 2026. No macro, syntax, notation, axiom, sorry.
-/
import Derived.Test.YtgnkmpgnlpjglaaChecked
import GoSem.Claim
import GoSem.ClaimJoined
import GoSem.ClaimMapViews
import Derived.JoinedTies
import Derived.KernelRfl
namespace Go.Proofs.Ytgnkmpgnlpjglaa
/- THE CELL 'sum', in the pinned program and in every row, IS THE sha256 OF THE DUMP (.gsa) THAT YtgnkmpgnlpjglaaProg.lean LOADS. Nothing in Lean hashes anything: it is a label: what it is worth is what the hold of that sum in a sandbox is worth. -/
noncomputable def Try.pinned : Pinned := { name := "ytgnkmpgnlpjglaa", sum := "5e5de679bddfac8001c9918f63a080dc9a83c0490c8171523f5bb3341001250a", checked := Try.checked }
namespace Rows
def none {H : Type} : Left H := { results := [], args := [] }

/-- 'bellbuoytop.TopPromoted': WHATEVER THE INPUT: true; the input reads as it did. -/
def topPromotedSpec : ChangeSpec := { name := "topPromoted", fn := fun _ => fun
  | [d1, d2, d3] => { results := [.lit (.bool true)], args := [d1, d2, d3] }
  | _ => none }
def topPromotedRow : OpenClaim := { program := "ytgnkmpgnlpjglaa", sum := "5e5de679bddfac8001c9918f63a080dc9a83c0490c8171523f5bb3341001250a", func := "bellbuoy/bellbuoytop.TopPromoted", spec := "topPromoted", unfollowed := true, recurses := true, apart := false }
def TopPromotedSaid : Prop := topPromotedRow.holds Try.pinned (OpenSpec.ofChange topPromotedSpec)

/-- ITS FALSE NEIGHBOUR: 'it returns false'. Refute it at one input. -/
def topPromotedWrong : ChangeSpec := { name := "topPromoted", fn := fun _ => fun
  | [d1, d2, d3] => { results := [.lit (.bool false)], args := [d1, d2, d3] }
  | _ => none }
def TopPromotedWrongFalsely : Prop := topPromotedRow.holds Try.pinned (OpenSpec.ofChange topPromotedWrong)

/-- 'bellbuoytop.TopNumbers': WHATEVER THE INPUT: true; the input reads as it did. -/
def topNumbersSpec : ChangeSpec := { name := "topNumbers", fn := fun _ => fun
  | [d] => { results := [.lit (.bool true)], args := [d] }
  | _ => none }
def topNumbersRow : OpenClaim := { program := "ytgnkmpgnlpjglaa", sum := "5e5de679bddfac8001c9918f63a080dc9a83c0490c8171523f5bb3341001250a", func := "bellbuoy/bellbuoytop.TopNumbers", spec := "topNumbers", unfollowed := true, recurses := true, apart := false }
def TopNumbersSaid : Prop := topNumbersRow.holds Try.pinned (OpenSpec.ofChange topNumbersSpec)

/-- ITS FALSE NEIGHBOUR: 'it returns false'. Refute it at one input. -/
def topNumbersWrong : ChangeSpec := { name := "topNumbers", fn := fun _ => fun
  | [d] => { results := [.lit (.bool false)], args := [d] }
  | _ => none }
def TopNumbersWrongFalsely : Prop := topNumbersRow.holds Try.pinned (OpenSpec.ofChange topNumbersWrong)

/-- 'bellbuoytop.TopFollows': WHATEVER THE INPUT: true; the input reads as it did. -/
def topFollowsSpec : ChangeSpec := { name := "topFollows", fn := fun _ => fun
  | [d1, d2] => { results := [.lit (.bool true)], args := [d1, d2] }
  | _ => none }
def topFollowsRow : OpenClaim := { program := "ytgnkmpgnlpjglaa", sum := "5e5de679bddfac8001c9918f63a080dc9a83c0490c8171523f5bb3341001250a", func := "bellbuoy/bellbuoytop.TopFollows", spec := "topFollows", inPlace := ["math/bits.Add64"], unfollowed := true, recurses := true, named := ["math/bits.divideError", "math/bits.overflowError"], apart := false }
def TopFollowsSaid : Prop := topFollowsRow.holds Try.pinned (OpenSpec.ofChange topFollowsSpec)

/-- ITS FALSE NEIGHBOUR: 'it returns false'. Refute it at one input. -/
def topFollowsWrong : ChangeSpec := { name := "topFollows", fn := fun _ => fun
  | [d1, d2] => { results := [.lit (.bool false)], args := [d1, d2] }
  | _ => none }
def TopFollowsWrongFalsely : Prop := topFollowsRow.holds Try.pinned (OpenSpec.ofChange topFollowsWrong)

/-- 'bellbuoytop.TopTold': WHATEVER THE INPUT: true; the input reads as it did. -/
def topToldSpec : ChangeSpec := { name := "topTold", fn := fun _ => fun
  | [d1, d2, d3] => { results := [.lit (.bool true)], args := [d1, d2, d3] }
  | _ => none }
def topToldRow : OpenClaim := { program := "ytgnkmpgnlpjglaa", sum := "5e5de679bddfac8001c9918f63a080dc9a83c0490c8171523f5bb3341001250a", func := "bellbuoy/bellbuoytop.TopTold", spec := "topTold", inPlace := ["math/bits.Add64"], unfollowed := true, recurses := true, named := ["math/bits.divideError", "math/bits.overflowError"], apart := false }
def TopToldSaid : Prop := topToldRow.holds Try.pinned (OpenSpec.ofChange topToldSpec)

/-- ITS FALSE NEIGHBOUR: 'it returns false'. Refute it at one input. -/
def topToldWrong : ChangeSpec := { name := "topTold", fn := fun _ => fun
  | [d1, d2, d3] => { results := [.lit (.bool false)], args := [d1, d2, d3] }
  | _ => none }
def TopToldWrongFalsely : Prop := topToldRow.holds Try.pinned (OpenSpec.ofChange topToldWrong)

/- THE SECOND FORM. 'bulk': how many values and letters a reading holds, each counted each time it is reached (what is shared counts as often as it is met; a slice's spare places count too). A statement '..UptoSaid' is the law's where the arguments, and the package variables that the reading takes, are together of bulk at most 1048576: NARROWER than '..Said'. Prove '..Said' where nothing that the law and all that it calls make is longer than what came in: it says more and counts as full. Else prove '..UptoSaid'. A law counts once. -/
mutual
def uptoBulk {H : Type} : DataW H → Nat
  | .lit (.string bytes) => bytes.length + 1
  | .lit _ => 1
  | .nil => 1
  | .ptr d => uptoBulk d + 1
  | .slice elems spare => uptoBulkAll elems + uptoBulkAll spare + 1
  | .agg parts => uptoBulkAll parts + 1
  | .iface _ d => uptoBulk d + 1
  | .map entries => uptoBulkEntries entries + 1
  | .held _ => 1
def uptoBulkAll {H : Type} : List (DataW H) → Nat
  | [] => 0
  | d :: r => uptoBulk d + uptoBulkAll r
def uptoBulkEntries {H : Type} : List (Lit × DataW H) → Nat
  | [] => 0
  | x :: r => uptoBulkEntry x + uptoBulkEntries r
def uptoBulkEntry {H : Type} : Lit × DataW H → Nat
  | (.string bytes, d) => bytes.length + uptoBulk d + 1
  | (_, d) => uptoBulk d + 1
 end
def uptoSmall : (H : Type) → List (DataW H) → Bool := fun _ ds => decide (uptoBulkAll ds ≤ 1048576)
def OpenSpec.upto (s : _root_.Go.ChangeSpec) : _root_.Go.OpenSpec := { _root_.Go.OpenSpec.ofChange s with cond := some uptoSmall }

/-- 'bellbuoytop.TopPromoted', WHERE WHAT IT READS IS OF BULK AT MOST 1048576: true; the input reads as it did. -/
def topPromotedUptoRow : OpenClaim := { program := "ytgnkmpgnlpjglaa", sum := "5e5de679bddfac8001c9918f63a080dc9a83c0490c8171523f5bb3341001250a", func := "bellbuoy/bellbuoytop.TopPromoted", spec := "topPromoted", unfollowed := true, recurses := true, apart := false, narrowed := true }
def TopPromotedUptoSaid : Prop := topPromotedUptoRow.holds Try.pinned (OpenSpec.upto topPromotedSpec)

/-- 'bellbuoytop.TopNumbers', WHERE WHAT IT READS IS OF BULK AT MOST 1048576: true; the input reads as it did. -/
def topNumbersUptoRow : OpenClaim := { program := "ytgnkmpgnlpjglaa", sum := "5e5de679bddfac8001c9918f63a080dc9a83c0490c8171523f5bb3341001250a", func := "bellbuoy/bellbuoytop.TopNumbers", spec := "topNumbers", unfollowed := true, recurses := true, apart := false, narrowed := true }
def TopNumbersUptoSaid : Prop := topNumbersUptoRow.holds Try.pinned (OpenSpec.upto topNumbersSpec)

/-- 'bellbuoytop.TopFollows', WHERE WHAT IT READS IS OF BULK AT MOST 1048576: true; the input reads as it did. -/
def topFollowsUptoRow : OpenClaim := { program := "ytgnkmpgnlpjglaa", sum := "5e5de679bddfac8001c9918f63a080dc9a83c0490c8171523f5bb3341001250a", func := "bellbuoy/bellbuoytop.TopFollows", spec := "topFollows", inPlace := ["math/bits.Add64"], unfollowed := true, recurses := true, named := ["math/bits.divideError", "math/bits.overflowError"], apart := false, narrowed := true }
def TopFollowsUptoSaid : Prop := topFollowsUptoRow.holds Try.pinned (OpenSpec.upto topFollowsSpec)

/-- 'bellbuoytop.TopTold', WHERE WHAT IT READS IS OF BULK AT MOST 1048576: true; the input reads as it did. -/
def topToldUptoRow : OpenClaim := { program := "ytgnkmpgnlpjglaa", sum := "5e5de679bddfac8001c9918f63a080dc9a83c0490c8171523f5bb3341001250a", func := "bellbuoy/bellbuoytop.TopTold", spec := "topTold", inPlace := ["math/bits.Add64"], unfollowed := true, recurses := true, named := ["math/bits.divideError", "math/bits.overflowError"], apart := false, narrowed := true }
def TopToldUptoSaid : Prop := topToldUptoRow.holds Try.pinned (OpenSpec.upto topToldSpec)

end Rows
end Go.Proofs.Ytgnkmpgnlpjglaa
