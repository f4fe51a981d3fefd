/-
  DERIVED. GIVEN WITH THE SEED: THE CARDS: each row of Qxb6500680aDoorRows.lean that lists a variable, with what it lists TIED to the program's text (the seventh form; the later family's looks); each row that meets fmt, with fmt's text TOLD by the authors' own Lean function (tested against real Go, not proved from fmt's source: count such statements apart). THE CARD IS WHAT COUNTS. Prove the row's statement (the work); the ties are given (Qxb6500680aDoorTie.lean); close each card by the builder's one call (the guide's Derived/Test/ToyasCard.lean, 'card_holds'). Laid BY PROGRAM, IN A SANDBOX (cutbox-door.mjs). By AI agents, Wed Nov 11 2026. No macro, syntax, notation, axiom, sorry.
-/
import Derived.Test.Qxb6500680aDoorRows
import GoSem.ClaimSeven
namespace Go.Proofs.Qxb6500680aDoor
namespace Rows

/-- THE TIED CARD OF 'softfplaw.EveryExponentHolds'. -/
def everyExponentHoldsCard : Claim7 := { stood := { row := everyExponentHoldsRow, standIns := [], harness := (true, "89484e5b1fbf3e9509126ef8081773acffd164ede04a1eec716bf95623fce8fd"), looks := false }, kinds := [], alts := [], laidByText := true, laidKinds := [.sentinel, .sentinel, .wider, .wider, .sentinel], laidTests := true, laidLooks := .later }
def EveryExponentHoldsCardSaid : Prop := Claim7.holds Tryd.pinned (.plain (OpenSpec.ofChange everyExponentHoldsSpec)) everyExponentHoldsCard
end Rows
end Go.Proofs.Qxb6500680aDoor
