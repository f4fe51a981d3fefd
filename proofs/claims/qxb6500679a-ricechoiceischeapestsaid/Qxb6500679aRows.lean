/-
  No cell of these rows narrows 'for every input' (looked for: loops, veiled, ifaces, maps, wideKeys, modest, calm, conditions, laid).
  DERIVED. THE GIVEN ROWS OF THIS SEAT. 1 by the template 'for every input the law returns true; each argument reads behind the call as it read before'; 0 by the template 'total and deterministic' (their statements: Qxb6500679aTotals.lean).
  GIVEN WITH THE SEED: the statements are not yours to turn. If you find one false, say at which input.
  Laid BY PROGRAM, IN A SANDBOX (cutbox-rows.mjs): the forced cells as the released guide's own fill.sh prints them over the translation 478aa2edb18a661c… (all of the seat's roots in one cut). By AI agents, Wed Nov 11 2026. No macro, syntax, notation, axiom, sorry.
-/
import Derived.Test.Qxb6500679aChecked
import GoSem.Claim
import GoSem.ClaimJoined
import GoSem.ClaimMapViews
import Derived.JoinedTies
import Derived.KernelRfl
namespace Go.Proofs.Qxb6500679a
/- THE CELL 'sum', in the pinned program and in every row, IS THE sha256 OF THE DUMP (.gsa) THAT Qxb6500679aProg.lean LOADS. Nothing in Lean hashes anything: it is a label: what it is worth is what the hold of that sum in a sandbox is worth. -/
noncomputable def Try.pinned : Pinned := { name := "qxb6500679a", sum := "478aa2edb18a661cf7e88128132bdf57fd9d0950afd76a106d33fdc33ad3900b", checked := Try.checked }
namespace Rows
def none {H : Type} : Left H := { results := [], args := [] }

/-- 'lpclaw.RiceChoiceIsCheapest': WHATEVER THE INPUT: true; the input reads as it did. -/
def riceChoiceIsCheapestSpec : ChangeSpec := { name := "riceChoiceIsCheapest", fn := fun _ => fun
  | [d] => { results := [.lit (.bool true)], args := [d] }
  | _ => none }
def riceChoiceIsCheapestRow : OpenClaim := { program := "qxb6500679a", sum := "478aa2edb18a661cf7e88128132bdf57fd9d0950afd76a106d33fdc33ad3900b", func := "e2e/lpclaw.RiceChoiceIsCheapest", spec := "riceChoiceIsCheapest", unfollowed := true, recurses := true, apart := false }
def RiceChoiceIsCheapestSaid : Prop := riceChoiceIsCheapestRow.holds Try.pinned (OpenSpec.ofChange riceChoiceIsCheapestSpec)

/-- ITS FALSE NEIGHBOUR: 'it returns false'. Refute it at one input. -/
def riceChoiceIsCheapestWrong : ChangeSpec := { name := "riceChoiceIsCheapest", fn := fun _ => fun
  | [d] => { results := [.lit (.bool false)], args := [d] }
  | _ => none }
def RiceChoiceIsCheapestWrongFalsely : Prop := riceChoiceIsCheapestRow.holds Try.pinned (OpenSpec.ofChange riceChoiceIsCheapestWrong)

end Rows
end Go.Proofs.Qxb6500679a
