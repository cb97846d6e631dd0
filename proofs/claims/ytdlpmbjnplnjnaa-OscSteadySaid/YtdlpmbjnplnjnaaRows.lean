/-
  No cell of these rows narrows 'for every input' (looked for: loops, veiled, ifaces, maps, wideKeys, modest, calm, conditions, laid).
  DERIVED. THE GIVEN ROWS OF THIS SEAT. 5 by the template 'for every input the law returns true; each argument reads behind the call as it read before'; 0 by the template 'total and deterministic' (their statements: YtdlpmbjnplnjnaaTotals.lean).
  GIVEN WITH THE SEED: the statements are not yours to turn. If you find one false, say at which input.
  Laid BY PROGRAM, IN A SANDBOX (cutbox-rows.mjs): the forced cells as the released guide's own fill.sh prints them over the translation a6d55f958eed5805… (all of the seat's roots in one cut). By AI agents, Wed Nov 11 2026. No macro, syntax, notation, axiom, sorry.
-/
import Derived.Test.YtdlpmbjnplnjnaaChecked
import GoSem.Claim
import GoSem.ClaimJoined
import GoSem.ClaimMapViews
import Derived.JoinedTies
import Derived.KernelRfl
namespace Go.Proofs.Ytdlpmbjnplnjnaa
/- THE CELL 'sum', in the pinned program and in every row, IS THE sha256 OF THE DUMP (.gsa) THAT YtdlpmbjnplnjnaaProg.lean LOADS. Nothing in Lean hashes anything: it is a label: what it is worth is what the hold of that sum in a sandbox is worth. -/
noncomputable def Try.pinned : Pinned := { name := "ytdlpmbjnplnjnaa", sum := "a6d55f958eed580536a8706fc0a2cf12139dfe52e0fe54108b328f3bd97b7cc6", checked := Try.checked }
namespace Rows
def none {H : Type} : Left H := { results := [], args := [] }

/-- 'bellbuoylaw16.OscCounts': WHATEVER THE INPUT: true; the input reads as it did. -/
def oscCountsSpec : ChangeSpec := { name := "oscCounts", fn := fun _ => fun
  | [d1, d2] => { results := [.lit (.bool true)], args := [d1, d2] }
  | _ => none }
def oscCountsRow : OpenClaim := { program := "ytdlpmbjnplnjnaa", sum := "a6d55f958eed580536a8706fc0a2cf12139dfe52e0fe54108b328f3bd97b7cc6", func := "bellbuoy/bellbuoylaw16.OscCounts", spec := "oscCounts", apart := false }
def OscCountsSaid : Prop := oscCountsRow.holds Try.pinned (OpenSpec.ofChange oscCountsSpec)

/-- ITS FALSE NEIGHBOUR: 'it returns false'. Refute it at one input. -/
def oscCountsWrong : ChangeSpec := { name := "oscCounts", fn := fun _ => fun
  | [d1, d2] => { results := [.lit (.bool false)], args := [d1, d2] }
  | _ => none }
def OscCountsWrongFalsely : Prop := oscCountsRow.holds Try.pinned (OpenSpec.ofChange oscCountsWrong)

/-- 'bellbuoylaw16.OscStamps': WHATEVER THE INPUT: true; the input reads as it did. -/
def oscStampsSpec : ChangeSpec := { name := "oscStamps", fn := fun _ => fun
  | [d1, d2, d3] => { results := [.lit (.bool true)], args := [d1, d2, d3] }
  | _ => none }
def oscStampsRow : OpenClaim := { program := "ytdlpmbjnplnjnaa", sum := "a6d55f958eed580536a8706fc0a2cf12139dfe52e0fe54108b328f3bd97b7cc6", func := "bellbuoy/bellbuoylaw16.OscStamps", spec := "oscStamps", apart := false }
def OscStampsSaid : Prop := oscStampsRow.holds Try.pinned (OpenSpec.ofChange oscStampsSpec)

/-- ITS FALSE NEIGHBOUR: 'it returns false'. Refute it at one input. -/
def oscStampsWrong : ChangeSpec := { name := "oscStamps", fn := fun _ => fun
  | [d1, d2, d3] => { results := [.lit (.bool false)], args := [d1, d2, d3] }
  | _ => none }
def OscStampsWrongFalsely : Prop := oscStampsRow.holds Try.pinned (OpenSpec.ofChange oscStampsWrong)

/-- 'bellbuoylaw16.OscBack': WHATEVER THE INPUT: true; the input reads as it did. -/
def oscBackSpec : ChangeSpec := { name := "oscBack", fn := fun _ => fun
  | [d1, d2, d3] => { results := [.lit (.bool true)], args := [d1, d2, d3] }
  | _ => none }
def oscBackRow : OpenClaim := { program := "ytdlpmbjnplnjnaa", sum := "a6d55f958eed580536a8706fc0a2cf12139dfe52e0fe54108b328f3bd97b7cc6", func := "bellbuoy/bellbuoylaw16.OscBack", spec := "oscBack", apart := false }
def OscBackSaid : Prop := oscBackRow.holds Try.pinned (OpenSpec.ofChange oscBackSpec)

/-- ITS FALSE NEIGHBOUR: 'it returns false'. Refute it at one input. -/
def oscBackWrong : ChangeSpec := { name := "oscBack", fn := fun _ => fun
  | [d1, d2, d3] => { results := [.lit (.bool false)], args := [d1, d2, d3] }
  | _ => none }
def OscBackWrongFalsely : Prop := oscBackRow.holds Try.pinned (OpenSpec.ofChange oscBackWrong)

/-- 'bellbuoylaw16.OscLatest': WHATEVER THE INPUT: true; the input reads as it did. -/
def oscLatestSpec : ChangeSpec := { name := "oscLatest", fn := fun _ => fun
  | [d1, d2, d3] => { results := [.lit (.bool true)], args := [d1, d2, d3] }
  | _ => none }
def oscLatestRow : OpenClaim := { program := "ytdlpmbjnplnjnaa", sum := "a6d55f958eed580536a8706fc0a2cf12139dfe52e0fe54108b328f3bd97b7cc6", func := "bellbuoy/bellbuoylaw16.OscLatest", spec := "oscLatest", apart := false }
def OscLatestSaid : Prop := oscLatestRow.holds Try.pinned (OpenSpec.ofChange oscLatestSpec)

/-- ITS FALSE NEIGHBOUR: 'it returns false'. Refute it at one input. -/
def oscLatestWrong : ChangeSpec := { name := "oscLatest", fn := fun _ => fun
  | [d1, d2, d3] => { results := [.lit (.bool false)], args := [d1, d2, d3] }
  | _ => none }
def OscLatestWrongFalsely : Prop := oscLatestRow.holds Try.pinned (OpenSpec.ofChange oscLatestWrong)

/-- 'bellbuoylaw16.OscSteady': WHATEVER THE INPUT: true; the input reads as it did. -/
def oscSteadySpec : ChangeSpec := { name := "oscSteady", fn := fun _ => fun
  | [d1, d2] => { results := [.lit (.bool true)], args := [d1, d2] }
  | _ => none }
def oscSteadyRow : OpenClaim := { program := "ytdlpmbjnplnjnaa", sum := "a6d55f958eed580536a8706fc0a2cf12139dfe52e0fe54108b328f3bd97b7cc6", func := "bellbuoy/bellbuoylaw16.OscSteady", spec := "oscSteady", apart := false }
def OscSteadySaid : Prop := oscSteadyRow.holds Try.pinned (OpenSpec.ofChange oscSteadySpec)

/-- ITS FALSE NEIGHBOUR: 'it returns false'. Refute it at one input. -/
def oscSteadyWrong : ChangeSpec := { name := "oscSteady", fn := fun _ => fun
  | [d1, d2] => { results := [.lit (.bool false)], args := [d1, d2] }
  | _ => none }
def OscSteadyWrongFalsely : Prop := oscSteadyRow.holds Try.pinned (OpenSpec.ofChange oscSteadyWrong)

/- THE SECOND FORM. 'bulk': how many values and letters a reading holds, each counted each time it is reached (what is shared counts as often as it is met; a slice's spare places count too). A statement '..UptoSaid' is the law's where the arguments, and the package variables that the reading takes, are together of bulk at most 1048576: NARROWER than '..Said'. Prove '..Said' where nothing that the law and all that it calls make is longer than what came in: it says more and counts as full. Else prove '..UptoSaid'. A law counts once. -/
mutual
def uptoBulk {H : Type} : DataW H → Nat
  | .lit (.string bytes) => bytes.length + 1
  | .lit _ => 1
  | .nil => 1
  | .ptr d => uptoBulk d + 1
  | .slice elems spare => uptoBulkAll elems + uptoBulkAll spare + 1
  | .agg parts => uptoBulkAll parts + 1
  | .iface _ d => uptoBulk d + 1
  | .map entries => uptoBulkEntries entries + 1
  | .held _ => 1
def uptoBulkAll {H : Type} : List (DataW H) → Nat
  | [] => 0
  | d :: r => uptoBulk d + uptoBulkAll r
def uptoBulkEntries {H : Type} : List (Lit × DataW H) → Nat
  | [] => 0
  | x :: r => uptoBulkEntry x + uptoBulkEntries r
def uptoBulkEntry {H : Type} : Lit × DataW H → Nat
  | (.string bytes, d) => bytes.length + uptoBulk d + 1
  | (_, d) => uptoBulk d + 1
 end
def uptoSmall : (H : Type) → List (DataW H) → Bool := fun _ ds => decide (uptoBulkAll ds ≤ 1048576)
def OpenSpec.upto (s : _root_.Go.ChangeSpec) : _root_.Go.OpenSpec := { _root_.Go.OpenSpec.ofChange s with cond := some uptoSmall }

/-- 'bellbuoylaw16.OscCounts', WHERE WHAT IT READS IS OF BULK AT MOST 1048576: true; the input reads as it did. -/
def oscCountsUptoRow : OpenClaim := { program := "ytdlpmbjnplnjnaa", sum := "a6d55f958eed580536a8706fc0a2cf12139dfe52e0fe54108b328f3bd97b7cc6", func := "bellbuoy/bellbuoylaw16.OscCounts", spec := "oscCounts", apart := false, narrowed := true }
def OscCountsUptoSaid : Prop := oscCountsUptoRow.holds Try.pinned (OpenSpec.upto oscCountsSpec)

/-- 'bellbuoylaw16.OscStamps', WHERE WHAT IT READS IS OF BULK AT MOST 1048576: true; the input reads as it did. -/
def oscStampsUptoRow : OpenClaim := { program := "ytdlpmbjnplnjnaa", sum := "a6d55f958eed580536a8706fc0a2cf12139dfe52e0fe54108b328f3bd97b7cc6", func := "bellbuoy/bellbuoylaw16.OscStamps", spec := "oscStamps", apart := false, narrowed := true }
def OscStampsUptoSaid : Prop := oscStampsUptoRow.holds Try.pinned (OpenSpec.upto oscStampsSpec)

/-- 'bellbuoylaw16.OscBack', WHERE WHAT IT READS IS OF BULK AT MOST 1048576: true; the input reads as it did. -/
def oscBackUptoRow : OpenClaim := { program := "ytdlpmbjnplnjnaa", sum := "a6d55f958eed580536a8706fc0a2cf12139dfe52e0fe54108b328f3bd97b7cc6", func := "bellbuoy/bellbuoylaw16.OscBack", spec := "oscBack", apart := false, narrowed := true }
def OscBackUptoSaid : Prop := oscBackUptoRow.holds Try.pinned (OpenSpec.upto oscBackSpec)

/-- 'bellbuoylaw16.OscLatest', WHERE WHAT IT READS IS OF BULK AT MOST 1048576: true; the input reads as it did. -/
def oscLatestUptoRow : OpenClaim := { program := "ytdlpmbjnplnjnaa", sum := "a6d55f958eed580536a8706fc0a2cf12139dfe52e0fe54108b328f3bd97b7cc6", func := "bellbuoy/bellbuoylaw16.OscLatest", spec := "oscLatest", apart := false, narrowed := true }
def OscLatestUptoSaid : Prop := oscLatestUptoRow.holds Try.pinned (OpenSpec.upto oscLatestSpec)

/-- 'bellbuoylaw16.OscSteady', WHERE WHAT IT READS IS OF BULK AT MOST 1048576: true; the input reads as it did. -/
def oscSteadyUptoRow : OpenClaim := { program := "ytdlpmbjnplnjnaa", sum := "a6d55f958eed580536a8706fc0a2cf12139dfe52e0fe54108b328f3bd97b7cc6", func := "bellbuoy/bellbuoylaw16.OscSteady", spec := "oscSteady", apart := false, narrowed := true }
def OscSteadyUptoSaid : Prop := oscSteadyUptoRow.holds Try.pinned (OpenSpec.upto oscSteadySpec)

end Rows
end Go.Proofs.Ytdlpmbjnplnjnaa
