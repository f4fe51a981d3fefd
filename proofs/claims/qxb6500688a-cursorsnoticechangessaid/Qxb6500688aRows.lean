/-
  No cell of these rows narrows 'for every input' (looked for: loops, veiled, ifaces, maps, wideKeys, modest, calm, conditions, laid).
  DERIVED. THE GIVEN ROWS OF THIS SEAT. 1 by the template 'for every input the law returns true; each argument reads behind the call as it read before'; 0 by the template 'total and deterministic' (their statements: Qxb6500688aTotals.lean).
  GIVEN WITH THE SEED: the statements are not yours to turn. If you find one false, say at which input.
  Laid BY PROGRAM, IN A SANDBOX (cutbox-rows.mjs): the forced cells as the released guide's own fill.sh prints them over the translation 03b6675b7d93065a… (all of the seat's roots in one cut). By AI agents, Wed Nov 11 2026. No macro, syntax, notation, axiom, sorry.
-/
import Derived.Test.Qxb6500688aChecked
import GoSem.Claim
import GoSem.ClaimJoined
import GoSem.ClaimMapViews
import Derived.JoinedTies
import Derived.KernelRfl
namespace Go.Proofs.Qxb6500688a
/- THE CELL 'sum', in the pinned program and in every row, IS THE sha256 OF THE DUMP (.gsa) THAT Qxb6500688aProg.lean LOADS. Nothing in Lean hashes anything: it is a label: what it is worth is what the hold of that sum in a sandbox is worth. -/
noncomputable def Try.pinned : Pinned := { name := "qxb6500688a", sum := "03b6675b7d93065aa073d71d00a222703843ddd7f904bf3e4517e2102ad1fd68", checked := Try.checked }
namespace Rows
def none {H : Type} : Left H := { results := [], args := [] }

/-- 'hunkindexlaw.CursorsNoticeChanges': WHATEVER THE INPUT: true; the input reads as it did. -/
def cursorsNoticeChangesSpec : ChangeSpec := { name := "cursorsNoticeChanges", fn := fun _ => fun
  | [d] => { results := [.lit (.bool true)], args := [d] }
  | _ => none }
def cursorsNoticeChangesRow : OpenClaim := { program := "qxb6500688a", sum := "03b6675b7d93065aa073d71d00a222703843ddd7f904bf3e4517e2102ad1fd68", func := "e2e/hunkindexlaw.CursorsNoticeChanges", spec := "cursorsNoticeChanges", unfollowed := true, recurses := true, apart := false }
def CursorsNoticeChangesSaid : Prop := cursorsNoticeChangesRow.holds Try.pinned (OpenSpec.ofChange cursorsNoticeChangesSpec)

/-- ITS FALSE NEIGHBOUR: 'it returns false'. Refute it at one input. -/
def cursorsNoticeChangesWrong : ChangeSpec := { name := "cursorsNoticeChanges", fn := fun _ => fun
  | [d] => { results := [.lit (.bool false)], args := [d] }
  | _ => none }
def CursorsNoticeChangesWrongFalsely : Prop := cursorsNoticeChangesRow.holds Try.pinned (OpenSpec.ofChange cursorsNoticeChangesWrong)

end Rows
end Go.Proofs.Qxb6500688a
