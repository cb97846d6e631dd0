/-
  No cell of these rows narrows 'for every input' (looked for: loops, veiled, ifaces, maps, wideKeys, modest, calm, conditions, laid).
  DERIVED. THE GIVEN ROWS OF THIS SEAT. 5 by the template 'for every input the law returns true; each argument reads behind the call as it read before'; 0 by the template 'total and deterministic' (their statements: YtcgkbbfnlbjblaaTotals.lean).
  GIVEN WITH THE SEED: the statements are not yours to turn. If you find one false, say at which input.
  Laid BY PROGRAM, IN A SANDBOX (cutbox-rows.mjs): the forced cells as the released guide's own fill.sh prints them over the translation 2a80876e2f9039fa… (all of the seat's roots in one cut). By AI agents, Wed Nov 11 2026. No macro, syntax, notation, axiom, sorry.
-/
import Derived.Test.YtcgkbbfnlbjblaaChecked
import GoSem.Claim
import GoSem.ClaimJoined
import GoSem.ClaimMapViews
import Derived.JoinedTies
import Derived.KernelRfl
namespace Go.Proofs.Ytcgkbbfnlbjblaa
/- THE CELL 'sum', in the pinned program and in every row, IS THE sha256 OF THE DUMP (.gsa) THAT YtcgkbbfnlbjblaaProg.lean LOADS. Nothing in Lean hashes anything: it is a label: what it is worth is what the hold of that sum in a sandbox is worth. -/
noncomputable def Try.pinned : Pinned := { name := "ytcgkbbfnlbjblaa", sum := "2a80876e2f9039faccb5ca5dc5bfc185deadb52613d291b1e4722bb1a3e00e1c", checked := Try.checked }
namespace Rows
def none {H : Type} : Left H := { results := [], args := [] }

/-- 'bellbuoylaw21.RankWaits': WHATEVER THE INPUT: true; the input reads as it did. -/
def rankWaitsSpec : ChangeSpec := { name := "rankWaits", fn := fun _ => fun
  | [d1, d2] => { results := [.lit (.bool true)], args := [d1, d2] }
  | _ => none }
def rankWaitsRow : OpenClaim := { program := "ytcgkbbfnlbjblaa", sum := "2a80876e2f9039faccb5ca5dc5bfc185deadb52613d291b1e4722bb1a3e00e1c", func := "bellbuoy/bellbuoylaw21.RankWaits", spec := "rankWaits", unfollowed := true, recurses := true, apart := false }
def RankWaitsSaid : Prop := rankWaitsRow.holds Try.pinned (OpenSpec.ofChange rankWaitsSpec)

/-- ITS FALSE NEIGHBOUR: 'it returns false'. Refute it at one input. -/
def rankWaitsWrong : ChangeSpec := { name := "rankWaits", fn := fun _ => fun
  | [d1, d2] => { results := [.lit (.bool false)], args := [d1, d2] }
  | _ => none }
def RankWaitsWrongFalsely : Prop := rankWaitsRow.holds Try.pinned (OpenSpec.ofChange rankWaitsWrong)

/-- 'bellbuoylaw21.RankNode': WHATEVER THE INPUT: true; the input reads as it did. -/
def rankNodeSpec : ChangeSpec := { name := "rankNode", fn := fun _ => fun
  | [d1, d2, d3] => { results := [.lit (.bool true)], args := [d1, d2, d3] }
  | _ => none }
def rankNodeRow : OpenClaim := { program := "ytcgkbbfnlbjblaa", sum := "2a80876e2f9039faccb5ca5dc5bfc185deadb52613d291b1e4722bb1a3e00e1c", func := "bellbuoy/bellbuoylaw21.RankNode", spec := "rankNode", unfollowed := true, recurses := true, apart := false }
def RankNodeSaid : Prop := rankNodeRow.holds Try.pinned (OpenSpec.ofChange rankNodeSpec)

/-- ITS FALSE NEIGHBOUR: 'it returns false'. Refute it at one input. -/
def rankNodeWrong : ChangeSpec := { name := "rankNode", fn := fun _ => fun
  | [d1, d2, d3] => { results := [.lit (.bool false)], args := [d1, d2, d3] }
  | _ => none }
def RankNodeWrongFalsely : Prop := rankNodeRow.holds Try.pinned (OpenSpec.ofChange rankNodeWrong)

/-- 'bellbuoylaw21.RankField': WHATEVER THE INPUT: true; the input reads as it did. -/
def rankFieldSpec : ChangeSpec := { name := "rankField", fn := fun _ => fun
  | [d1, d2, d3] => { results := [.lit (.bool true)], args := [d1, d2, d3] }
  | _ => none }
def rankFieldRow : OpenClaim := { program := "ytcgkbbfnlbjblaa", sum := "2a80876e2f9039faccb5ca5dc5bfc185deadb52613d291b1e4722bb1a3e00e1c", func := "bellbuoy/bellbuoylaw21.RankField", spec := "rankField", unfollowed := true, recurses := true, apart := false }
def RankFieldSaid : Prop := rankFieldRow.holds Try.pinned (OpenSpec.ofChange rankFieldSpec)

/-- ITS FALSE NEIGHBOUR: 'it returns false'. Refute it at one input. -/
def rankFieldWrong : ChangeSpec := { name := "rankField", fn := fun _ => fun
  | [d1, d2, d3] => { results := [.lit (.bool false)], args := [d1, d2, d3] }
  | _ => none }
def RankFieldWrongFalsely : Prop := rankFieldRow.holds Try.pinned (OpenSpec.ofChange rankFieldWrong)

/-- 'bellbuoylaw21.RankOne': WHATEVER THE INPUT: true; the input reads as it did. -/
def rankOneSpec : ChangeSpec := { name := "rankOne", fn := fun _ => fun
  | [d1, d2, d3] => { results := [.lit (.bool true)], args := [d1, d2, d3] }
  | _ => none }
def rankOneRow : OpenClaim := { program := "ytcgkbbfnlbjblaa", sum := "2a80876e2f9039faccb5ca5dc5bfc185deadb52613d291b1e4722bb1a3e00e1c", func := "bellbuoy/bellbuoylaw21.RankOne", spec := "rankOne", unfollowed := true, recurses := true, apart := false }
def RankOneSaid : Prop := rankOneRow.holds Try.pinned (OpenSpec.ofChange rankOneSpec)

/-- ITS FALSE NEIGHBOUR: 'it returns false'. Refute it at one input. -/
def rankOneWrong : ChangeSpec := { name := "rankOne", fn := fun _ => fun
  | [d1, d2, d3] => { results := [.lit (.bool false)], args := [d1, d2, d3] }
  | _ => none }
def RankOneWrongFalsely : Prop := rankOneRow.holds Try.pinned (OpenSpec.ofChange rankOneWrong)

/-- 'bellbuoylaw21.RankDemotes': WHATEVER THE INPUT: true; the input reads as it did. -/
def rankDemotesSpec : ChangeSpec := { name := "rankDemotes", fn := fun _ => fun
  | [d1, d2] => { results := [.lit (.bool true)], args := [d1, d2] }
  | _ => none }
def rankDemotesRow : OpenClaim := { program := "ytcgkbbfnlbjblaa", sum := "2a80876e2f9039faccb5ca5dc5bfc185deadb52613d291b1e4722bb1a3e00e1c", func := "bellbuoy/bellbuoylaw21.RankDemotes", spec := "rankDemotes", unfollowed := true, recurses := true, apart := false }
def RankDemotesSaid : Prop := rankDemotesRow.holds Try.pinned (OpenSpec.ofChange rankDemotesSpec)

/-- ITS FALSE NEIGHBOUR: 'it returns false'. Refute it at one input. -/
def rankDemotesWrong : ChangeSpec := { name := "rankDemotes", fn := fun _ => fun
  | [d1, d2] => { results := [.lit (.bool false)], args := [d1, d2] }
  | _ => none }
def RankDemotesWrongFalsely : Prop := rankDemotesRow.holds Try.pinned (OpenSpec.ofChange rankDemotesWrong)

/- THE SECOND FORM. 'bulk': how many values and letters a reading holds, each counted each time it is reached (what is shared counts as often as it is met; a slice's spare places count too). A statement '..UptoSaid' is the law's where the arguments, and the package variables that the reading takes, are together of bulk at most 1048576: NARROWER than '..Said'. Prove '..Said' where nothing that the law and all that it calls make is longer than what came in: it says more and counts as full. Else prove '..UptoSaid'. A law counts once. -/
mutual
def uptoBulk {H : Type} : DataW H → Nat
  | .lit (.string bytes) => bytes.length + 1
  | .lit _ => 1
  | .nil => 1
  | .ptr d => uptoBulk d + 1
  | .slice elems spare => uptoBulkAll elems + uptoBulkAll spare + 1
  | .agg parts => uptoBulkAll parts + 1
  | .iface _ d => uptoBulk d + 1
  | .map entries => uptoBulkEntries entries + 1
  | .held _ => 1
def uptoBulkAll {H : Type} : List (DataW H) → Nat
  | [] => 0
  | d :: r => uptoBulk d + uptoBulkAll r
def uptoBulkEntries {H : Type} : List (Lit × DataW H) → Nat
  | [] => 0
  | x :: r => uptoBulkEntry x + uptoBulkEntries r
def uptoBulkEntry {H : Type} : Lit × DataW H → Nat
  | (.string bytes, d) => bytes.length + uptoBulk d + 1
  | (_, d) => uptoBulk d + 1
 end
def uptoSmall : (H : Type) → List (DataW H) → Bool := fun _ ds => decide (uptoBulkAll ds ≤ 1048576)
def OpenSpec.upto (s : _root_.Go.ChangeSpec) : _root_.Go.OpenSpec := { _root_.Go.OpenSpec.ofChange s with cond := some uptoSmall }

/-- 'bellbuoylaw21.RankWaits', WHERE WHAT IT READS IS OF BULK AT MOST 1048576: true; the input reads as it did. -/
def rankWaitsUptoRow : OpenClaim := { program := "ytcgkbbfnlbjblaa", sum := "2a80876e2f9039faccb5ca5dc5bfc185deadb52613d291b1e4722bb1a3e00e1c", func := "bellbuoy/bellbuoylaw21.RankWaits", spec := "rankWaits", unfollowed := true, recurses := true, apart := false, narrowed := true }
def RankWaitsUptoSaid : Prop := rankWaitsUptoRow.holds Try.pinned (OpenSpec.upto rankWaitsSpec)

/-- 'bellbuoylaw21.RankNode', WHERE WHAT IT READS IS OF BULK AT MOST 1048576: true; the input reads as it did. -/
def rankNodeUptoRow : OpenClaim := { program := "ytcgkbbfnlbjblaa", sum := "2a80876e2f9039faccb5ca5dc5bfc185deadb52613d291b1e4722bb1a3e00e1c", func := "bellbuoy/bellbuoylaw21.RankNode", spec := "rankNode", unfollowed := true, recurses := true, apart := false, narrowed := true }
def RankNodeUptoSaid : Prop := rankNodeUptoRow.holds Try.pinned (OpenSpec.upto rankNodeSpec)

/-- 'bellbuoylaw21.RankField', WHERE WHAT IT READS IS OF BULK AT MOST 1048576: true; the input reads as it did. -/
def rankFieldUptoRow : OpenClaim := { program := "ytcgkbbfnlbjblaa", sum := "2a80876e2f9039faccb5ca5dc5bfc185deadb52613d291b1e4722bb1a3e00e1c", func := "bellbuoy/bellbuoylaw21.RankField", spec := "rankField", unfollowed := true, recurses := true, apart := false, narrowed := true }
def RankFieldUptoSaid : Prop := rankFieldUptoRow.holds Try.pinned (OpenSpec.upto rankFieldSpec)

/-- 'bellbuoylaw21.RankOne', WHERE WHAT IT READS IS OF BULK AT MOST 1048576: true; the input reads as it did. -/
def rankOneUptoRow : OpenClaim := { program := "ytcgkbbfnlbjblaa", sum := "2a80876e2f9039faccb5ca5dc5bfc185deadb52613d291b1e4722bb1a3e00e1c", func := "bellbuoy/bellbuoylaw21.RankOne", spec := "rankOne", unfollowed := true, recurses := true, apart := false, narrowed := true }
def RankOneUptoSaid : Prop := rankOneUptoRow.holds Try.pinned (OpenSpec.upto rankOneSpec)

/-- 'bellbuoylaw21.RankDemotes', WHERE WHAT IT READS IS OF BULK AT MOST 1048576: true; the input reads as it did. -/
def rankDemotesUptoRow : OpenClaim := { program := "ytcgkbbfnlbjblaa", sum := "2a80876e2f9039faccb5ca5dc5bfc185deadb52613d291b1e4722bb1a3e00e1c", func := "bellbuoy/bellbuoylaw21.RankDemotes", spec := "rankDemotes", unfollowed := true, recurses := true, apart := false, narrowed := true }
def RankDemotesUptoSaid : Prop := rankDemotesUptoRow.holds Try.pinned (OpenSpec.upto rankDemotesSpec)

end Rows
end Go.Proofs.Ytcgkbbfnlbjblaa
