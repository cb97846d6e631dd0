/-
  No cell of these rows narrows 'for every input' (looked for: loops, veiled, ifaces, maps, wideKeys, modest, calm, conditions, laid).
  DERIVED. THE GIVEN ROWS OF THIS SEAT. 5 by the template 'for every input the law returns true; each argument reads behind the call as it read before'; 0 by the template 'total and deterministic' (their statements: YtbjepiglagnpjaaTotals.lean).
  GIVEN WITH THE SEED: the statements are not yours to turn. If you find one false, say at which input.
  Laid BY PROGRAM, IN A SANDBOX (cutbox-rows.mjs): the forced cells as the released guide's own fill.sh prints them over the translation 710fa952096569bc… (all of the seat's roots in one cut). By AI agents, Wed Nov 11 2026. No macro, syntax, notation, axiom, sorry.
-/
import Derived.Test.YtbjepiglagnpjaaChecked
import GoSem.Claim
import GoSem.ClaimJoined
import GoSem.ClaimMapViews
import Derived.JoinedTies
import Derived.KernelRfl
namespace Go.Proofs.Ytbjepiglagnpjaa
/- THE CELL 'sum', in the pinned program and in every row, IS THE sha256 OF THE DUMP (.gsa) THAT YtbjepiglagnpjaaProg.lean LOADS. Nothing in Lean hashes anything: it is a label: what it is worth is what the hold of that sum in a sandbox is worth. -/
noncomputable def Try.pinned : Pinned := { name := "ytbjepiglagnpjaa", sum := "710fa952096569bcef2e8385c9f72b3022446855ec42f3292bfc4910794de518", checked := Try.checked }
namespace Rows
def none {H : Type} : Left H := { results := [], args := [] }

/-- 'bellbuoylaw22.QuantSlots': WHATEVER THE INPUT: true; the input reads as it did. -/
def quantSlotsSpec : ChangeSpec := { name := "quantSlots", fn := fun _ => fun
  | [d1, d2, d3] => { results := [.lit (.bool true)], args := [d1, d2, d3] }
  | _ => none }
def quantSlotsRow : OpenClaim := { program := "ytbjepiglagnpjaa", sum := "710fa952096569bcef2e8385c9f72b3022446855ec42f3292bfc4910794de518", func := "bellbuoy/bellbuoylaw22.QuantSlots", spec := "quantSlots", unfollowed := true, recurses := true, apart := false }
def QuantSlotsSaid : Prop := quantSlotsRow.holds Try.pinned (OpenSpec.ofChange quantSlotsSpec)

/-- ITS FALSE NEIGHBOUR: 'it returns false'. Refute it at one input. -/
def quantSlotsWrong : ChangeSpec := { name := "quantSlots", fn := fun _ => fun
  | [d1, d2, d3] => { results := [.lit (.bool false)], args := [d1, d2, d3] }
  | _ => none }
def QuantSlotsWrongFalsely : Prop := quantSlotsRow.holds Try.pinned (OpenSpec.ofChange quantSlotsWrong)

/-- 'bellbuoylaw22.QuantOrder': WHATEVER THE INPUT: true; the input reads as it did. -/
def quantOrderSpec : ChangeSpec := { name := "quantOrder", fn := fun _ => fun
  | [d1, d2, d3] => { results := [.lit (.bool true)], args := [d1, d2, d3] }
  | _ => none }
def quantOrderRow : OpenClaim := { program := "ytbjepiglagnpjaa", sum := "710fa952096569bcef2e8385c9f72b3022446855ec42f3292bfc4910794de518", func := "bellbuoy/bellbuoylaw22.QuantOrder", spec := "quantOrder", unfollowed := true, recurses := true, apart := false }
def QuantOrderSaid : Prop := quantOrderRow.holds Try.pinned (OpenSpec.ofChange quantOrderSpec)

/-- ITS FALSE NEIGHBOUR: 'it returns false'. Refute it at one input. -/
def quantOrderWrong : ChangeSpec := { name := "quantOrder", fn := fun _ => fun
  | [d1, d2, d3] => { results := [.lit (.bool false)], args := [d1, d2, d3] }
  | _ => none }
def QuantOrderWrongFalsely : Prop := quantOrderRow.holds Try.pinned (OpenSpec.ofChange quantOrderWrong)

/-- 'bellbuoylaw22.QuantLoss': WHATEVER THE INPUT: true; the input reads as it did. -/
def quantLossSpec : ChangeSpec := { name := "quantLoss", fn := fun _ => fun
  | [d1, d2, d3] => { results := [.lit (.bool true)], args := [d1, d2, d3] }
  | _ => none }
def quantLossRow : OpenClaim := { program := "ytbjepiglagnpjaa", sum := "710fa952096569bcef2e8385c9f72b3022446855ec42f3292bfc4910794de518", func := "bellbuoy/bellbuoylaw22.QuantLoss", spec := "quantLoss", unfollowed := true, recurses := true, apart := false }
def QuantLossSaid : Prop := quantLossRow.holds Try.pinned (OpenSpec.ofChange quantLossSpec)

/-- ITS FALSE NEIGHBOUR: 'it returns false'. Refute it at one input. -/
def quantLossWrong : ChangeSpec := { name := "quantLoss", fn := fun _ => fun
  | [d1, d2, d3] => { results := [.lit (.bool false)], args := [d1, d2, d3] }
  | _ => none }
def QuantLossWrongFalsely : Prop := quantLossRow.holds Try.pinned (OpenSpec.ofChange quantLossWrong)

/-- 'bellbuoylaw22.QuantPromotes': WHATEVER THE INPUT: true; the input reads as it did. -/
def quantPromotesSpec : ChangeSpec := { name := "quantPromotes", fn := fun _ => fun
  | [d1, d2, d3] => { results := [.lit (.bool true)], args := [d1, d2, d3] }
  | _ => none }
def quantPromotesRow : OpenClaim := { program := "ytbjepiglagnpjaa", sum := "710fa952096569bcef2e8385c9f72b3022446855ec42f3292bfc4910794de518", func := "bellbuoy/bellbuoylaw22.QuantPromotes", spec := "quantPromotes", unfollowed := true, recurses := true, apart := false }
def QuantPromotesSaid : Prop := quantPromotesRow.holds Try.pinned (OpenSpec.ofChange quantPromotesSpec)

/-- ITS FALSE NEIGHBOUR: 'it returns false'. Refute it at one input. -/
def quantPromotesWrong : ChangeSpec := { name := "quantPromotes", fn := fun _ => fun
  | [d1, d2, d3] => { results := [.lit (.bool false)], args := [d1, d2, d3] }
  | _ => none }
def QuantPromotesWrongFalsely : Prop := quantPromotesRow.holds Try.pinned (OpenSpec.ofChange quantPromotesWrong)

/-- 'bellbuoylaw22.QuantEpochs': WHATEVER THE INPUT: true; the input reads as it did. -/
def quantEpochsSpec : ChangeSpec := { name := "quantEpochs", fn := fun _ => fun
  | [d1, d2] => { results := [.lit (.bool true)], args := [d1, d2] }
  | _ => none }
def quantEpochsRow : OpenClaim := { program := "ytbjepiglagnpjaa", sum := "710fa952096569bcef2e8385c9f72b3022446855ec42f3292bfc4910794de518", func := "bellbuoy/bellbuoylaw22.QuantEpochs", spec := "quantEpochs", unfollowed := true, recurses := true, apart := false }
def QuantEpochsSaid : Prop := quantEpochsRow.holds Try.pinned (OpenSpec.ofChange quantEpochsSpec)

/-- ITS FALSE NEIGHBOUR: 'it returns false'. Refute it at one input. -/
def quantEpochsWrong : ChangeSpec := { name := "quantEpochs", fn := fun _ => fun
  | [d1, d2] => { results := [.lit (.bool false)], args := [d1, d2] }
  | _ => none }
def QuantEpochsWrongFalsely : Prop := quantEpochsRow.holds Try.pinned (OpenSpec.ofChange quantEpochsWrong)

/- THE SECOND FORM. 'bulk': how many values and letters a reading holds, each counted each time it is reached (what is shared counts as often as it is met; a slice's spare places count too). A statement '..UptoSaid' is the law's where the arguments, and the package variables that the reading takes, are together of bulk at most 1048576: NARROWER than '..Said'. Prove '..Said' where nothing that the law and all that it calls make is longer than what came in: it says more and counts as full. Else prove '..UptoSaid'. A law counts once. -/
mutual
def uptoBulk {H : Type} : DataW H → Nat
  | .lit (.string bytes) => bytes.length + 1
  | .lit _ => 1
  | .nil => 1
  | .ptr d => uptoBulk d + 1
  | .slice elems spare => uptoBulkAll elems + uptoBulkAll spare + 1
  | .agg parts => uptoBulkAll parts + 1
  | .iface _ d => uptoBulk d + 1
  | .map entries => uptoBulkEntries entries + 1
  | .held _ => 1
def uptoBulkAll {H : Type} : List (DataW H) → Nat
  | [] => 0
  | d :: r => uptoBulk d + uptoBulkAll r
def uptoBulkEntries {H : Type} : List (Lit × DataW H) → Nat
  | [] => 0
  | x :: r => uptoBulkEntry x + uptoBulkEntries r
def uptoBulkEntry {H : Type} : Lit × DataW H → Nat
  | (.string bytes, d) => bytes.length + uptoBulk d + 1
  | (_, d) => uptoBulk d + 1
 end
def uptoSmall : (H : Type) → List (DataW H) → Bool := fun _ ds => decide (uptoBulkAll ds ≤ 1048576)
def OpenSpec.upto (s : _root_.Go.ChangeSpec) : _root_.Go.OpenSpec := { _root_.Go.OpenSpec.ofChange s with cond := some uptoSmall }

/-- 'bellbuoylaw22.QuantSlots', WHERE WHAT IT READS IS OF BULK AT MOST 1048576: true; the input reads as it did. -/
def quantSlotsUptoRow : OpenClaim := { program := "ytbjepiglagnpjaa", sum := "710fa952096569bcef2e8385c9f72b3022446855ec42f3292bfc4910794de518", func := "bellbuoy/bellbuoylaw22.QuantSlots", spec := "quantSlots", unfollowed := true, recurses := true, apart := false, narrowed := true }
def QuantSlotsUptoSaid : Prop := quantSlotsUptoRow.holds Try.pinned (OpenSpec.upto quantSlotsSpec)

/-- 'bellbuoylaw22.QuantOrder', WHERE WHAT IT READS IS OF BULK AT MOST 1048576: true; the input reads as it did. -/
def quantOrderUptoRow : OpenClaim := { program := "ytbjepiglagnpjaa", sum := "710fa952096569bcef2e8385c9f72b3022446855ec42f3292bfc4910794de518", func := "bellbuoy/bellbuoylaw22.QuantOrder", spec := "quantOrder", unfollowed := true, recurses := true, apart := false, narrowed := true }
def QuantOrderUptoSaid : Prop := quantOrderUptoRow.holds Try.pinned (OpenSpec.upto quantOrderSpec)

/-- 'bellbuoylaw22.QuantLoss', WHERE WHAT IT READS IS OF BULK AT MOST 1048576: true; the input reads as it did. -/
def quantLossUptoRow : OpenClaim := { program := "ytbjepiglagnpjaa", sum := "710fa952096569bcef2e8385c9f72b3022446855ec42f3292bfc4910794de518", func := "bellbuoy/bellbuoylaw22.QuantLoss", spec := "quantLoss", unfollowed := true, recurses := true, apart := false, narrowed := true }
def QuantLossUptoSaid : Prop := quantLossUptoRow.holds Try.pinned (OpenSpec.upto quantLossSpec)

/-- 'bellbuoylaw22.QuantPromotes', WHERE WHAT IT READS IS OF BULK AT MOST 1048576: true; the input reads as it did. -/
def quantPromotesUptoRow : OpenClaim := { program := "ytbjepiglagnpjaa", sum := "710fa952096569bcef2e8385c9f72b3022446855ec42f3292bfc4910794de518", func := "bellbuoy/bellbuoylaw22.QuantPromotes", spec := "quantPromotes", unfollowed := true, recurses := true, apart := false, narrowed := true }
def QuantPromotesUptoSaid : Prop := quantPromotesUptoRow.holds Try.pinned (OpenSpec.upto quantPromotesSpec)

/-- 'bellbuoylaw22.QuantEpochs', WHERE WHAT IT READS IS OF BULK AT MOST 1048576: true; the input reads as it did. -/
def quantEpochsUptoRow : OpenClaim := { program := "ytbjepiglagnpjaa", sum := "710fa952096569bcef2e8385c9f72b3022446855ec42f3292bfc4910794de518", func := "bellbuoy/bellbuoylaw22.QuantEpochs", spec := "quantEpochs", unfollowed := true, recurses := true, apart := false, narrowed := true }
def QuantEpochsUptoSaid : Prop := quantEpochsUptoRow.holds Try.pinned (OpenSpec.upto quantEpochsSpec)

end Rows
end Go.Proofs.Ytbjepiglagnpjaa
