/-
  No cell of these rows narrows 'for every input' (looked for: loops, veiled, ifaces, maps, wideKeys, modest, calm, conditions, laid).
  DERIVED. THE GIVEN ROWS OF THIS SEAT. 5 by the template 'for every input the law returns true; each argument reads behind the call as it read before'; 0 by the template 'total and deterministic' (their statements: YtcimnghmkhdolaaTotals.lean).
  GIVEN WITH THE SEED: the statements are not yours to turn. If you find one false, say at which input.
  Laid BY PROGRAM, IN A SANDBOX (cutbox-rows.mjs): the forced cells as the released guide's own fill.sh prints them over the translation 7758fa67626f2d67… (all of the seat's roots in one cut). By AI agents, Wed Nov 11 2026. No macro, syntax, notation, axiom, sorry.
-/
import Derived.Test.YtcimnghmkhdolaaChecked
import GoSem.Claim
import GoSem.ClaimJoined
import GoSem.ClaimMapViews
import Derived.JoinedTies
import Derived.KernelRfl
namespace Go.Proofs.Ytcimnghmkhdolaa
/- THE CELL 'sum', in the pinned program and in every row, IS THE sha256 OF THE DUMP (.gsa) THAT YtcimnghmkhdolaaProg.lean LOADS. Nothing in Lean hashes anything: it is a label: what it is worth is what the hold of that sum in a sandbox is worth. -/
noncomputable def Try.pinned : Pinned := { name := "ytcimnghmkhdolaa", sum := "7758fa67626f2d67f8f7497f510c65db8c350e4545292f9429c45b5824e87bc4", checked := Try.checked }
namespace Rows
def none {H : Type} : Left H := { results := [], args := [] }

/-- 'bellbuoylaw05.IdentWins': WHATEVER THE INPUT: true; the input reads as it did. -/
def identWinsSpec : ChangeSpec := { name := "identWins", fn := fun _ => fun
  | [d1, d2] => { results := [.lit (.bool true)], args := [d1, d2] }
  | _ => none }
def identWinsRow : OpenClaim := { program := "ytcimnghmkhdolaa", sum := "7758fa67626f2d67f8f7497f510c65db8c350e4545292f9429c45b5824e87bc4", func := "bellbuoy/bellbuoylaw05.IdentWins", spec := "identWins", unfollowed := true, recurses := true, apart := false }
def IdentWinsSaid : Prop := identWinsRow.holds Try.pinned (OpenSpec.ofChange identWinsSpec)

/-- ITS FALSE NEIGHBOUR: 'it returns false'. Refute it at one input. -/
def identWinsWrong : ChangeSpec := { name := "identWins", fn := fun _ => fun
  | [d1, d2] => { results := [.lit (.bool false)], args := [d1, d2] }
  | _ => none }
def IdentWinsWrongFalsely : Prop := identWinsRow.holds Try.pinned (OpenSpec.ofChange identWinsWrong)

/-- 'bellbuoylaw05.IdentOne': WHATEVER THE INPUT: true; the input reads as it did. -/
def identOneSpec : ChangeSpec := { name := "identOne", fn := fun _ => fun
  | [d1, d2, d3] => { results := [.lit (.bool true)], args := [d1, d2, d3] }
  | _ => none }
def identOneRow : OpenClaim := { program := "ytcimnghmkhdolaa", sum := "7758fa67626f2d67f8f7497f510c65db8c350e4545292f9429c45b5824e87bc4", func := "bellbuoy/bellbuoylaw05.IdentOne", spec := "identOne", unfollowed := true, recurses := true, apart := false }
def IdentOneSaid : Prop := identOneRow.holds Try.pinned (OpenSpec.ofChange identOneSpec)

/-- ITS FALSE NEIGHBOUR: 'it returns false'. Refute it at one input. -/
def identOneWrong : ChangeSpec := { name := "identOne", fn := fun _ => fun
  | [d1, d2, d3] => { results := [.lit (.bool false)], args := [d1, d2, d3] }
  | _ => none }
def IdentOneWrongFalsely : Prop := identOneRow.holds Try.pinned (OpenSpec.ofChange identOneWrong)

/-- 'bellbuoylaw05.IdentBits': WHATEVER THE INPUT: true; the input reads as it did. -/
def identBitsSpec : ChangeSpec := { name := "identBits", fn := fun _ => fun
  | [d1, d2] => { results := [.lit (.bool true)], args := [d1, d2] }
  | _ => none }
def identBitsRow : OpenClaim := { program := "ytcimnghmkhdolaa", sum := "7758fa67626f2d67f8f7497f510c65db8c350e4545292f9429c45b5824e87bc4", func := "bellbuoy/bellbuoylaw05.IdentBits", spec := "identBits", unfollowed := true, recurses := true, apart := false }
def IdentBitsSaid : Prop := identBitsRow.holds Try.pinned (OpenSpec.ofChange identBitsSpec)

/-- ITS FALSE NEIGHBOUR: 'it returns false'. Refute it at one input. -/
def identBitsWrong : ChangeSpec := { name := "identBits", fn := fun _ => fun
  | [d1, d2] => { results := [.lit (.bool false)], args := [d1, d2] }
  | _ => none }
def IdentBitsWrongFalsely : Prop := identBitsRow.holds Try.pinned (OpenSpec.ofChange identBitsWrong)

/-- 'bellbuoylaw05.IdentIs': WHATEVER THE INPUT: true; the input reads as it did. -/
def identIsSpec : ChangeSpec := { name := "identIs", fn := fun _ => fun
  | [d1, d2, d3] => { results := [.lit (.bool true)], args := [d1, d2, d3] }
  | _ => none }
def identIsRow : OpenClaim := { program := "ytcimnghmkhdolaa", sum := "7758fa67626f2d67f8f7497f510c65db8c350e4545292f9429c45b5824e87bc4", func := "bellbuoy/bellbuoylaw05.IdentIs", spec := "identIs", unfollowed := true, recurses := true, apart := false }
def IdentIsSaid : Prop := identIsRow.holds Try.pinned (OpenSpec.ofChange identIsSpec)

/-- ITS FALSE NEIGHBOUR: 'it returns false'. Refute it at one input. -/
def identIsWrong : ChangeSpec := { name := "identIs", fn := fun _ => fun
  | [d1, d2, d3] => { results := [.lit (.bool false)], args := [d1, d2, d3] }
  | _ => none }
def IdentIsWrongFalsely : Prop := identIsRow.holds Try.pinned (OpenSpec.ofChange identIsWrong)

/-- 'bellbuoylaw05.IdentBack': WHATEVER THE INPUT: true; the input reads as it did. -/
def identBackSpec : ChangeSpec := { name := "identBack", fn := fun _ => fun
  | [d1, d2, d3] => { results := [.lit (.bool true)], args := [d1, d2, d3] }
  | _ => none }
def identBackRow : OpenClaim := { program := "ytcimnghmkhdolaa", sum := "7758fa67626f2d67f8f7497f510c65db8c350e4545292f9429c45b5824e87bc4", func := "bellbuoy/bellbuoylaw05.IdentBack", spec := "identBack", unfollowed := true, recurses := true, apart := false }
def IdentBackSaid : Prop := identBackRow.holds Try.pinned (OpenSpec.ofChange identBackSpec)

/-- ITS FALSE NEIGHBOUR: 'it returns false'. Refute it at one input. -/
def identBackWrong : ChangeSpec := { name := "identBack", fn := fun _ => fun
  | [d1, d2, d3] => { results := [.lit (.bool false)], args := [d1, d2, d3] }
  | _ => none }
def IdentBackWrongFalsely : Prop := identBackRow.holds Try.pinned (OpenSpec.ofChange identBackWrong)

/- THE SECOND FORM. 'bulk': how many values and letters a reading holds, each counted each time it is reached (what is shared counts as often as it is met; a slice's spare places count too). A statement '..UptoSaid' is the law's where the arguments, and the package variables that the reading takes, are together of bulk at most 1048576: NARROWER than '..Said'. Prove '..Said' where nothing that the law and all that it calls make is longer than what came in: it says more and counts as full. Else prove '..UptoSaid'. A law counts once. -/
mutual
def uptoBulk {H : Type} : DataW H → Nat
  | .lit (.string bytes) => bytes.length + 1
  | .lit _ => 1
  | .nil => 1
  | .ptr d => uptoBulk d + 1
  | .slice elems spare => uptoBulkAll elems + uptoBulkAll spare + 1
  | .agg parts => uptoBulkAll parts + 1
  | .iface _ d => uptoBulk d + 1
  | .map entries => uptoBulkEntries entries + 1
  | .held _ => 1
def uptoBulkAll {H : Type} : List (DataW H) → Nat
  | [] => 0
  | d :: r => uptoBulk d + uptoBulkAll r
def uptoBulkEntries {H : Type} : List (Lit × DataW H) → Nat
  | [] => 0
  | x :: r => uptoBulkEntry x + uptoBulkEntries r
def uptoBulkEntry {H : Type} : Lit × DataW H → Nat
  | (.string bytes, d) => bytes.length + uptoBulk d + 1
  | (_, d) => uptoBulk d + 1
 end
def uptoSmall : (H : Type) → List (DataW H) → Bool := fun _ ds => decide (uptoBulkAll ds ≤ 1048576)
def OpenSpec.upto (s : _root_.Go.ChangeSpec) : _root_.Go.OpenSpec := { _root_.Go.OpenSpec.ofChange s with cond := some uptoSmall }

/-- 'bellbuoylaw05.IdentWins', WHERE WHAT IT READS IS OF BULK AT MOST 1048576: true; the input reads as it did. -/
def identWinsUptoRow : OpenClaim := { program := "ytcimnghmkhdolaa", sum := "7758fa67626f2d67f8f7497f510c65db8c350e4545292f9429c45b5824e87bc4", func := "bellbuoy/bellbuoylaw05.IdentWins", spec := "identWins", unfollowed := true, recurses := true, apart := false, narrowed := true }
def IdentWinsUptoSaid : Prop := identWinsUptoRow.holds Try.pinned (OpenSpec.upto identWinsSpec)

/-- 'bellbuoylaw05.IdentOne', WHERE WHAT IT READS IS OF BULK AT MOST 1048576: true; the input reads as it did. -/
def identOneUptoRow : OpenClaim := { program := "ytcimnghmkhdolaa", sum := "7758fa67626f2d67f8f7497f510c65db8c350e4545292f9429c45b5824e87bc4", func := "bellbuoy/bellbuoylaw05.IdentOne", spec := "identOne", unfollowed := true, recurses := true, apart := false, narrowed := true }
def IdentOneUptoSaid : Prop := identOneUptoRow.holds Try.pinned (OpenSpec.upto identOneSpec)

/-- 'bellbuoylaw05.IdentBits', WHERE WHAT IT READS IS OF BULK AT MOST 1048576: true; the input reads as it did. -/
def identBitsUptoRow : OpenClaim := { program := "ytcimnghmkhdolaa", sum := "7758fa67626f2d67f8f7497f510c65db8c350e4545292f9429c45b5824e87bc4", func := "bellbuoy/bellbuoylaw05.IdentBits", spec := "identBits", unfollowed := true, recurses := true, apart := false, narrowed := true }
def IdentBitsUptoSaid : Prop := identBitsUptoRow.holds Try.pinned (OpenSpec.upto identBitsSpec)

/-- 'bellbuoylaw05.IdentIs', WHERE WHAT IT READS IS OF BULK AT MOST 1048576: true; the input reads as it did. -/
def identIsUptoRow : OpenClaim := { program := "ytcimnghmkhdolaa", sum := "7758fa67626f2d67f8f7497f510c65db8c350e4545292f9429c45b5824e87bc4", func := "bellbuoy/bellbuoylaw05.IdentIs", spec := "identIs", unfollowed := true, recurses := true, apart := false, narrowed := true }
def IdentIsUptoSaid : Prop := identIsUptoRow.holds Try.pinned (OpenSpec.upto identIsSpec)

/-- 'bellbuoylaw05.IdentBack', WHERE WHAT IT READS IS OF BULK AT MOST 1048576: true; the input reads as it did. -/
def identBackUptoRow : OpenClaim := { program := "ytcimnghmkhdolaa", sum := "7758fa67626f2d67f8f7497f510c65db8c350e4545292f9429c45b5824e87bc4", func := "bellbuoy/bellbuoylaw05.IdentBack", spec := "identBack", unfollowed := true, recurses := true, apart := false, narrowed := true }
def IdentBackUptoSaid : Prop := identBackUptoRow.holds Try.pinned (OpenSpec.upto identBackSpec)

end Rows
end Go.Proofs.Ytcimnghmkhdolaa
