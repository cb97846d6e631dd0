/-
  DERIVED. GIVEN WITH THE SEED: THE CARDS: each row of YtjhnkncmdeineaaDoorRows.lean that lists a variable, with what it lists TIED to the program's text (the seventh form; the later family's looks); each row that meets fmt, with fmt's text TOLD by the authors' own Lean function (tested against real Go, not proved from fmt's source: count such statements apart). THE CARD IS WHAT COUNTS. Prove the row's statement (the work); the ties are given (YtjhnkncmdeineaaDoorTie.lean); close each card by the builder's one call (the guide's Derived/Test/ToyasCard.lean, 'card_holds'). Laid BY PROGRAM, IN A SANDBOX (cutbox-door.mjs). By AI agents, Wed Nov 11 2026. No macro, syntax, notation, axiom, sorry.
-/
import Derived.Test.YtjhnkncmdeineaaDoorRows
import GoSem.ClaimSeven
namespace Go.Proofs.YtjhnkncmdeineaaDoor
namespace Rows

/-- THE TIED CARD OF 'bellbuoytop.TopBodies'. -/
def topBodiesCard : Claim7 := { stood := { row := topBodiesRow, standIns := [], harness := (true, "253c5e2e6027492e76b89e90084544953db0c92b2475bdf0788b85f6b5c61421"), looks := false }, kinds := [], alts := [], laidByText := true, laidKinds := [.data], laidTests := true, laidLooks := .later }
def TopBodiesCardSaid : Prop := Claim7.holds Tryd.pinned (.plain (OpenSpec.ofChange topBodiesSpec)) topBodiesCard

/-- THE SECOND FORM's CARD OF 'bellbuoytop.TopBodies'. -/
def topBodiesUptoCard : Claim7 := { stood := { row := topBodiesUptoRow, standIns := [], harness := (true, "253c5e2e6027492e76b89e90084544953db0c92b2475bdf0788b85f6b5c61421"), looks := false }, kinds := [], alts := [], laidByText := true, laidKinds := [.data], laidTests := true, laidLooks := .later }
def TopBodiesUptoCardSaid : Prop := Claim7.holds Tryd.pinned (.plain (OpenSpec.upto topBodiesSpec)) topBodiesUptoCard
end Rows
end Go.Proofs.YtjhnkncmdeineaaDoor
