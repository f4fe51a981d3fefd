/-
  NARROWER THAN 'FOR EVERY INPUT', by the rows' own cells (each row's printed sentence says how): EveryExponentHolds: laid.
  DERIVED. THE GIVEN ROWS OF THIS SEAT. 1 by the template 'for every input the law returns true; each argument reads behind the call as it read before'; 0 by the template 'total and deterministic' (their statements: Qxb6500680aDoorTotals.lean).
  GIVEN WITH THE SEED: the statements are not yours to turn. If you find one false, say at which input.
  Laid BY PROGRAM, IN A SANDBOX (cutbox-rows.mjs): the forced cells as the released guide's own fill.sh prints them over the translation 1ef6effef10e7a61… (all of the seat's roots in one cut). By AI agents, Wed Nov 11 2026. No macro, syntax, notation, axiom, sorry.
-/
import Derived.Test.Qxb6500680aDoorChecked
import GoSem.Claim
import GoSem.ClaimJoined
import GoSem.ClaimMapViews
import Derived.JoinedTies
import Derived.KernelRfl
namespace Go.Proofs.Qxb6500680aDoor
/- THE CELL 'sum', in the pinned program and in every row, IS THE sha256 OF THE DUMP (.gsa) THAT Qxb6500680aDoorProg.lean LOADS. Nothing in Lean hashes anything: it is a label: what it is worth is what the hold of that sum in a sandbox is worth. -/
noncomputable def Tryd.pinned : Pinned := { name := "qxb6500680adoor", sum := "1ef6effef10e7a61d870a4bfb879c5da72cfbbb841dff1fcd30558f35dcfb387", checked := Tryd.checked }
namespace Rows
def none {H : Type} : Left H := { results := [], args := [] }

/- WHAT THE LISTED PACKAGE-LEVEL VARIABLES READ AS WHEN THE CALL BEGINS. Each datum BY PROGRAM (the guide's laid-datum.mjs) off the statement by which the dump's own 'gosem.cut.vars' lays the variable. In a bare row this is a premise. The card (Qxb6500680aDoorCards.lean) ties it to the program's text. -/
def laid_e2e_softfp_ErrExpField {H : Type} : DataW H := .iface "*errors.errorString" (.ptr (.agg [.lit (.string [115, 111, 102, 116, 102, 112, 58, 32, 101, 120, 112, 111, 110, 101, 110, 116, 32, 102, 105, 101, 108, 100, 32, 116, 111, 111, 32, 119, 105, 100, 101, 32, 102, 111, 114, 32, 116, 104, 101, 32, 102, 111, 114, 109, 97, 116])]))
def laid_e2e_softfp_ErrFracField {H : Type} : DataW H := .iface "*errors.errorString" (.ptr (.agg [.lit (.string [115, 111, 102, 116, 102, 112, 58, 32, 102, 114, 97, 99, 116, 105, 111, 110, 32, 102, 105, 101, 108, 100, 32, 116, 111, 111, 32, 119, 105, 100, 101, 32, 102, 111, 114, 32, 116, 104, 101, 32, 102, 111, 114, 109, 97, 116])]))
def laid_e2e_softfp_Binary32 {H : Type} : DataW H := .agg [.lit (.int .u64 32), .lit (.int .u64 8), .lit (.int .u64 23)]
def laid_e2e_softfp_Binary64 {H : Type} : DataW H := .agg [.lit (.int .u64 64), .lit (.int .u64 11), .lit (.int .u64 52)]
def laid_e2e_softfp_ErrWidth {H : Type} : DataW H := .iface "*errors.errorString" (.ptr (.agg [.lit (.string [115, 111, 102, 116, 102, 112, 58, 32, 115, 97, 109, 112, 108, 101, 32, 119, 105, 100, 116, 104, 32, 105, 115, 32, 110, 101, 105, 116, 104, 101, 114, 32, 51, 50, 32, 110, 111, 114, 32, 54, 52])]))

/-- 'softfplaw.EveryExponentHolds': WHATEVER THE INPUT: true; the input reads as it did. -/
def everyExponentHoldsSpec : ChangeSpec := { name := "everyExponentHolds", fn := fun _ => fun
  | [] => { results := [.lit (.bool true)], args := [] }
  | _ => none }
def everyExponentHoldsRow : OpenClaim := { program := "qxb6500680adoor", sum := "1ef6effef10e7a61d870a4bfb879c5da72cfbbb841dff1fcd30558f35dcfb387", func := "e2e/softfplaw.EveryExponentHolds", spec := "everyExponentHolds", named := ["e2e/softfp.Binary32", "e2e/softfp.Binary64", "e2e/softfp.ErrWidth", "e2e/softfp.ErrExpField", "e2e/softfp.ErrFracField"], apart := false, laid := [("e2e/softfp.ErrExpField", laid_e2e_softfp_ErrExpField), ("e2e/softfp.ErrFracField", laid_e2e_softfp_ErrFracField), ("e2e/softfp.Binary32", laid_e2e_softfp_Binary32), ("e2e/softfp.Binary64", laid_e2e_softfp_Binary64), ("e2e/softfp.ErrWidth", laid_e2e_softfp_ErrWidth)] }
def EveryExponentHoldsSaid : Prop := everyExponentHoldsRow.holds Tryd.pinned (OpenSpec.ofChange everyExponentHoldsSpec)

/-- ITS FALSE NEIGHBOUR: 'it returns false'. Refute it at one input. -/
def everyExponentHoldsWrong : ChangeSpec := { name := "everyExponentHolds", fn := fun _ => fun
  | [] => { results := [.lit (.bool false)], args := [] }
  | _ => none }
def EveryExponentHoldsWrongFalsely : Prop := everyExponentHoldsRow.holds Tryd.pinned (OpenSpec.ofChange everyExponentHoldsWrong)

end Rows
end Go.Proofs.Qxb6500680aDoor
