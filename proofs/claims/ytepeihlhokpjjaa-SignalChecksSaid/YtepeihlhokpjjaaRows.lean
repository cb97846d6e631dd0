/-
  No cell of these rows narrows 'for every input' (looked for: loops, veiled, ifaces, maps, wideKeys, modest, calm, conditions, laid).
  DERIVED. THE GIVEN ROWS OF THIS SEAT. 5 by the template 'for every input the law returns true; each argument reads behind the call as it read before'; 0 by the template 'total and deterministic' (their statements: YtepeihlhokpjjaaTotals.lean).
  GIVEN WITH THE SEED: the statements are not yours to turn. If you find one false, say at which input.
  Laid BY PROGRAM, IN A SANDBOX (cutbox-rows.mjs): the forced cells as the released guide's own fill.sh prints them over the translation 2bf0f912234f0705… (all of the seat's roots in one cut). By AI agents, Wed Nov 11 2026. No macro, syntax, notation, axiom, sorry.
-/
import Derived.Test.YtepeihlhokpjjaaChecked
import GoSem.Claim
import GoSem.ClaimJoined
import GoSem.ClaimMapViews
import Derived.JoinedTies
import Derived.KernelRfl
namespace Go.Proofs.Ytepeihlhokpjjaa
/- THE CELL 'sum', in the pinned program and in every row, IS THE sha256 OF THE DUMP (.gsa) THAT YtepeihlhokpjjaaProg.lean LOADS. Nothing in Lean hashes anything: it is a label: what it is worth is what the hold of that sum in a sandbox is worth. -/
noncomputable def Try.pinned : Pinned := { name := "ytepeihlhokpjjaa", sum := "2bf0f912234f070550e44c1f95e8ddd83cdd11a075a56abc3c82c1034bac5663", checked := Try.checked }
namespace Rows
def none {H : Type} : Left H := { results := [], args := [] }

/-- 'bellbuoylaw37.SignalIs': WHATEVER THE INPUT: true; the input reads as it did. -/
def signalIsSpec : ChangeSpec := { name := "signalIs", fn := fun _ => fun
  | [d1, d2, d3] => { results := [.lit (.bool true)], args := [d1, d2, d3] }
  | _ => none }
def signalIsRow : OpenClaim := { program := "ytepeihlhokpjjaa", sum := "2bf0f912234f070550e44c1f95e8ddd83cdd11a075a56abc3c82c1034bac5663", func := "bellbuoy/bellbuoylaw37.SignalIs", spec := "signalIs", unfollowed := true, recurses := true, apart := false }
def SignalIsSaid : Prop := signalIsRow.holds Try.pinned (OpenSpec.ofChange signalIsSpec)

/-- ITS FALSE NEIGHBOUR: 'it returns false'. Refute it at one input. -/
def signalIsWrong : ChangeSpec := { name := "signalIs", fn := fun _ => fun
  | [d1, d2, d3] => { results := [.lit (.bool false)], args := [d1, d2, d3] }
  | _ => none }
def SignalIsWrongFalsely : Prop := signalIsRow.holds Try.pinned (OpenSpec.ofChange signalIsWrong)

/-- 'bellbuoylaw37.SignalChecks': WHATEVER THE INPUT: true; the input reads as it did. -/
def signalChecksSpec : ChangeSpec := { name := "signalChecks", fn := fun _ => fun
  | [d1, d2, d3] => { results := [.lit (.bool true)], args := [d1, d2, d3] }
  | _ => none }
def signalChecksRow : OpenClaim := { program := "ytepeihlhokpjjaa", sum := "2bf0f912234f070550e44c1f95e8ddd83cdd11a075a56abc3c82c1034bac5663", func := "bellbuoy/bellbuoylaw37.SignalChecks", spec := "signalChecks", unfollowed := true, recurses := true, apart := false }
def SignalChecksSaid : Prop := signalChecksRow.holds Try.pinned (OpenSpec.ofChange signalChecksSpec)

/-- ITS FALSE NEIGHBOUR: 'it returns false'. Refute it at one input. -/
def signalChecksWrong : ChangeSpec := { name := "signalChecks", fn := fun _ => fun
  | [d1, d2, d3] => { results := [.lit (.bool false)], args := [d1, d2, d3] }
  | _ => none }
def SignalChecksWrongFalsely : Prop := signalChecksRow.holds Try.pinned (OpenSpec.ofChange signalChecksWrong)

/-- 'bellbuoylaw37.SignalBack': WHATEVER THE INPUT: true; the input reads as it did. -/
def signalBackSpec : ChangeSpec := { name := "signalBack", fn := fun _ => fun
  | [d1, d2, d3] => { results := [.lit (.bool true)], args := [d1, d2, d3] }
  | _ => none }
def signalBackRow : OpenClaim := { program := "ytepeihlhokpjjaa", sum := "2bf0f912234f070550e44c1f95e8ddd83cdd11a075a56abc3c82c1034bac5663", func := "bellbuoy/bellbuoylaw37.SignalBack", spec := "signalBack", unfollowed := true, recurses := true, apart := false }
def SignalBackSaid : Prop := signalBackRow.holds Try.pinned (OpenSpec.ofChange signalBackSpec)

/-- ITS FALSE NEIGHBOUR: 'it returns false'. Refute it at one input. -/
def signalBackWrong : ChangeSpec := { name := "signalBack", fn := fun _ => fun
  | [d1, d2, d3] => { results := [.lit (.bool false)], args := [d1, d2, d3] }
  | _ => none }
def SignalBackWrongFalsely : Prop := signalBackRow.holds Try.pinned (OpenSpec.ofChange signalBackWrong)

/-- 'bellbuoylaw37.SignalPacks': WHATEVER THE INPUT: true; the input reads as it did. -/
def signalPacksSpec : ChangeSpec := { name := "signalPacks", fn := fun _ => fun
  | [d1, d2, d3] => { results := [.lit (.bool true)], args := [d1, d2, d3] }
  | _ => none }
def signalPacksRow : OpenClaim := { program := "ytepeihlhokpjjaa", sum := "2bf0f912234f070550e44c1f95e8ddd83cdd11a075a56abc3c82c1034bac5663", func := "bellbuoy/bellbuoylaw37.SignalPacks", spec := "signalPacks", unfollowed := true, recurses := true, apart := false }
def SignalPacksSaid : Prop := signalPacksRow.holds Try.pinned (OpenSpec.ofChange signalPacksSpec)

/-- ITS FALSE NEIGHBOUR: 'it returns false'. Refute it at one input. -/
def signalPacksWrong : ChangeSpec := { name := "signalPacks", fn := fun _ => fun
  | [d1, d2, d3] => { results := [.lit (.bool false)], args := [d1, d2, d3] }
  | _ => none }
def SignalPacksWrongFalsely : Prop := signalPacksRow.holds Try.pinned (OpenSpec.ofChange signalPacksWrong)

/-- 'bellbuoylaw37.SignalWorth': WHATEVER THE INPUT: true; the input reads as it did. -/
def signalWorthSpec : ChangeSpec := { name := "signalWorth", fn := fun _ => fun
  | [d1, d2, d3] => { results := [.lit (.bool true)], args := [d1, d2, d3] }
  | _ => none }
def signalWorthRow : OpenClaim := { program := "ytepeihlhokpjjaa", sum := "2bf0f912234f070550e44c1f95e8ddd83cdd11a075a56abc3c82c1034bac5663", func := "bellbuoy/bellbuoylaw37.SignalWorth", spec := "signalWorth", unfollowed := true, recurses := true, apart := false }
def SignalWorthSaid : Prop := signalWorthRow.holds Try.pinned (OpenSpec.ofChange signalWorthSpec)

/-- ITS FALSE NEIGHBOUR: 'it returns false'. Refute it at one input. -/
def signalWorthWrong : ChangeSpec := { name := "signalWorth", fn := fun _ => fun
  | [d1, d2, d3] => { results := [.lit (.bool false)], args := [d1, d2, d3] }
  | _ => none }
def SignalWorthWrongFalsely : Prop := signalWorthRow.holds Try.pinned (OpenSpec.ofChange signalWorthWrong)

/- THE SECOND FORM. 'bulk': how many values and letters a reading holds, each counted each time it is reached (what is shared counts as often as it is met; a slice's spare places count too). A statement '..UptoSaid' is the law's where the arguments, and the package variables that the reading takes, are together of bulk at most 1048576: NARROWER than '..Said'. Prove '..Said' where nothing that the law and all that it calls make is longer than what came in: it says more and counts as full. Else prove '..UptoSaid'. A law counts once. -/
mutual
def uptoBulk {H : Type} : DataW H → Nat
  | .lit (.string bytes) => bytes.length + 1
  | .lit _ => 1
  | .nil => 1
  | .ptr d => uptoBulk d + 1
  | .slice elems spare => uptoBulkAll elems + uptoBulkAll spare + 1
  | .agg parts => uptoBulkAll parts + 1
  | .iface _ d => uptoBulk d + 1
  | .map entries => uptoBulkEntries entries + 1
  | .held _ => 1
def uptoBulkAll {H : Type} : List (DataW H) → Nat
  | [] => 0
  | d :: r => uptoBulk d + uptoBulkAll r
def uptoBulkEntries {H : Type} : List (Lit × DataW H) → Nat
  | [] => 0
  | x :: r => uptoBulkEntry x + uptoBulkEntries r
def uptoBulkEntry {H : Type} : Lit × DataW H → Nat
  | (.string bytes, d) => bytes.length + uptoBulk d + 1
  | (_, d) => uptoBulk d + 1
 end
def uptoSmall : (H : Type) → List (DataW H) → Bool := fun _ ds => decide (uptoBulkAll ds ≤ 1048576)
def OpenSpec.upto (s : _root_.Go.ChangeSpec) : _root_.Go.OpenSpec := { _root_.Go.OpenSpec.ofChange s with cond := some uptoSmall }

/-- 'bellbuoylaw37.SignalIs', WHERE WHAT IT READS IS OF BULK AT MOST 1048576: true; the input reads as it did. -/
def signalIsUptoRow : OpenClaim := { program := "ytepeihlhokpjjaa", sum := "2bf0f912234f070550e44c1f95e8ddd83cdd11a075a56abc3c82c1034bac5663", func := "bellbuoy/bellbuoylaw37.SignalIs", spec := "signalIs", unfollowed := true, recurses := true, apart := false, narrowed := true }
def SignalIsUptoSaid : Prop := signalIsUptoRow.holds Try.pinned (OpenSpec.upto signalIsSpec)

/-- 'bellbuoylaw37.SignalChecks', WHERE WHAT IT READS IS OF BULK AT MOST 1048576: true; the input reads as it did. -/
def signalChecksUptoRow : OpenClaim := { program := "ytepeihlhokpjjaa", sum := "2bf0f912234f070550e44c1f95e8ddd83cdd11a075a56abc3c82c1034bac5663", func := "bellbuoy/bellbuoylaw37.SignalChecks", spec := "signalChecks", unfollowed := true, recurses := true, apart := false, narrowed := true }
def SignalChecksUptoSaid : Prop := signalChecksUptoRow.holds Try.pinned (OpenSpec.upto signalChecksSpec)

/-- 'bellbuoylaw37.SignalBack', WHERE WHAT IT READS IS OF BULK AT MOST 1048576: true; the input reads as it did. -/
def signalBackUptoRow : OpenClaim := { program := "ytepeihlhokpjjaa", sum := "2bf0f912234f070550e44c1f95e8ddd83cdd11a075a56abc3c82c1034bac5663", func := "bellbuoy/bellbuoylaw37.SignalBack", spec := "signalBack", unfollowed := true, recurses := true, apart := false, narrowed := true }
def SignalBackUptoSaid : Prop := signalBackUptoRow.holds Try.pinned (OpenSpec.upto signalBackSpec)

/-- 'bellbuoylaw37.SignalPacks', WHERE WHAT IT READS IS OF BULK AT MOST 1048576: true; the input reads as it did. -/
def signalPacksUptoRow : OpenClaim := { program := "ytepeihlhokpjjaa", sum := "2bf0f912234f070550e44c1f95e8ddd83cdd11a075a56abc3c82c1034bac5663", func := "bellbuoy/bellbuoylaw37.SignalPacks", spec := "signalPacks", unfollowed := true, recurses := true, apart := false, narrowed := true }
def SignalPacksUptoSaid : Prop := signalPacksUptoRow.holds Try.pinned (OpenSpec.upto signalPacksSpec)

/-- 'bellbuoylaw37.SignalWorth', WHERE WHAT IT READS IS OF BULK AT MOST 1048576: true; the input reads as it did. -/
def signalWorthUptoRow : OpenClaim := { program := "ytepeihlhokpjjaa", sum := "2bf0f912234f070550e44c1f95e8ddd83cdd11a075a56abc3c82c1034bac5663", func := "bellbuoy/bellbuoylaw37.SignalWorth", spec := "signalWorth", unfollowed := true, recurses := true, apart := false, narrowed := true }
def SignalWorthUptoSaid : Prop := signalWorthUptoRow.holds Try.pinned (OpenSpec.upto signalWorthSpec)

end Rows
end Go.Proofs.Ytepeihlhokpjjaa
