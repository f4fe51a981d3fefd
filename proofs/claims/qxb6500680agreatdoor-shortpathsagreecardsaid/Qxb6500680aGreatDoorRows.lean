/-
  NARROWER THAN 'FOR EVERY INPUT', by the rows' own cells (each row's printed sentence says how): SplitJoinIdentity: laid · ClassesPartition: laid · TextRoundTrips: laid · BytesRoundTrip: laid · BlocksAgree: laid · ShortPathsAgree: laid · MachineAgrees: laid.
  DERIVED. THE GIVEN ROWS OF THIS SEAT. 7 by the template 'for every input the law returns true; each argument reads behind the call as it read before'; 0 by the template 'total and deterministic' (their statements: Qxb6500680aGreatDoorTotals.lean).
  GIVEN WITH THE SEED: the statements are not yours to turn. If you find one false, say at which input.
  Laid BY PROGRAM, IN A SANDBOX (cutbox-rows.mjs): the forced cells as the released guide's own fill.sh prints them over the translation 3716eef4f76b33a4… (all of the seat's roots in one cut). By AI agents, Wed Nov 11 2026. No macro, syntax, notation, axiom, sorry.
-/
import Derived.Test.Qxb6500680aGreatDoorChecked
import GoSem.Claim
import GoSem.ClaimJoined
import GoSem.ClaimMapViews
import Derived.JoinedTies
import Derived.KernelRfl
namespace Go.Proofs.Qxb6500680aGreatDoor
/- THE CELL 'sum', in the pinned program and in every row, IS THE sha256 OF THE DUMP (.gsa) THAT Qxb6500680aGreatDoorProg.lean LOADS. Nothing in Lean hashes anything: it is a label: what it is worth is what the hold of that sum in a sandbox is worth. -/
noncomputable def Tryz.pinned : Pinned := { name := "qxb6500680agreatdoor", sum := "3716eef4f76b33a49971635b1c7b9bf914c8ec849a1e4f4b7850261d104caa55", checked := Tryz.checked }
namespace Rows
def none {H : Type} : Left H := { results := [], args := [] }

/- WHAT THE LISTED PACKAGE-LEVEL VARIABLES READ AS WHEN THE CALL BEGINS. Each datum BY PROGRAM (the guide's laid-datum.mjs) off the statement by which the dump's own 'gosem.cut.vars' lays the variable. In a bare row this is a premise. The card (Qxb6500680aGreatDoorCards.lean) ties it to the program's text. -/
def laid_math_bits_deBruijn32tab {H : Type} : DataW H := .agg [.lit (.int .u8 0), .lit (.int .u8 1), .lit (.int .u8 28), .lit (.int .u8 2), .lit (.int .u8 29), .lit (.int .u8 14), .lit (.int .u8 24), .lit (.int .u8 3), .lit (.int .u8 30), .lit (.int .u8 22), .lit (.int .u8 20), .lit (.int .u8 15), .lit (.int .u8 25), .lit (.int .u8 17), .lit (.int .u8 4), .lit (.int .u8 8), .lit (.int .u8 31), .lit (.int .u8 27), .lit (.int .u8 13), .lit (.int .u8 23), .lit (.int .u8 21), .lit (.int .u8 19), .lit (.int .u8 16), .lit (.int .u8 7), .lit (.int .u8 26), .lit (.int .u8 12), .lit (.int .u8 18), .lit (.int .u8 6), .lit (.int .u8 11), .lit (.int .u8 5), .lit (.int .u8 10), .lit (.int .u8 9)]
def laid_math_bits_deBruijn64tab {H : Type} : DataW H := .agg [.lit (.int .u8 0), .lit (.int .u8 1), .lit (.int .u8 56), .lit (.int .u8 2), .lit (.int .u8 57), .lit (.int .u8 49), .lit (.int .u8 28), .lit (.int .u8 3), .lit (.int .u8 61), .lit (.int .u8 58), .lit (.int .u8 42), .lit (.int .u8 50), .lit (.int .u8 38), .lit (.int .u8 29), .lit (.int .u8 17), .lit (.int .u8 4), .lit (.int .u8 62), .lit (.int .u8 47), .lit (.int .u8 59), .lit (.int .u8 36), .lit (.int .u8 45), .lit (.int .u8 43), .lit (.int .u8 51), .lit (.int .u8 22), .lit (.int .u8 53), .lit (.int .u8 39), .lit (.int .u8 33), .lit (.int .u8 30), .lit (.int .u8 24), .lit (.int .u8 18), .lit (.int .u8 12), .lit (.int .u8 5), .lit (.int .u8 63), .lit (.int .u8 55), .lit (.int .u8 48), .lit (.int .u8 27), .lit (.int .u8 60), .lit (.int .u8 41), .lit (.int .u8 37), .lit (.int .u8 16), .lit (.int .u8 46), .lit (.int .u8 35), .lit (.int .u8 44), .lit (.int .u8 21), .lit (.int .u8 52), .lit (.int .u8 32), .lit (.int .u8 23), .lit (.int .u8 11), .lit (.int .u8 54), .lit (.int .u8 26), .lit (.int .u8 40), .lit (.int .u8 15), .lit (.int .u8 34), .lit (.int .u8 20), .lit (.int .u8 31), .lit (.int .u8 10), .lit (.int .u8 25), .lit (.int .u8 14), .lit (.int .u8 19), .lit (.int .u8 9), .lit (.int .u8 13), .lit (.int .u8 8), .lit (.int .u8 7), .lit (.int .u8 6)]
def laid_internal_strconv_uint64pow10 {H : Type} : DataW H := .agg [.lit (.int .u64 1), .lit (.int .u64 10), .lit (.int .u64 100), .lit (.int .u64 1000), .lit (.int .u64 10000), .lit (.int .u64 100000), .lit (.int .u64 1000000), .lit (.int .u64 10000000), .lit (.int .u64 100000000), .lit (.int .u64 1000000000), .lit (.int .u64 10000000000), .lit (.int .u64 100000000000), .lit (.int .u64 1000000000000), .lit (.int .u64 10000000000000), .lit (.int .u64 100000000000000), .lit (.int .u64 1000000000000000), .lit (.int .u64 10000000000000000), .lit (.int .u64 100000000000000000), .lit (.int .u64 1000000000000000000), .lit (.int .u64 10000000000000000000)]
def laid_e2e_softfp_ErrExpField {H : Type} : DataW H := .iface "*errors.errorString" (.ptr (.agg [.lit (.string [115, 111, 102, 116, 102, 112, 58, 32, 101, 120, 112, 111, 110, 101, 110, 116, 32, 102, 105, 101, 108, 100, 32, 116, 111, 111, 32, 119, 105, 100, 101, 32, 102, 111, 114, 32, 116, 104, 101, 32, 102, 111, 114, 109, 97, 116])]))
def laid_e2e_softfp_ErrFracField {H : Type} : DataW H := .iface "*errors.errorString" (.ptr (.agg [.lit (.string [115, 111, 102, 116, 102, 112, 58, 32, 102, 114, 97, 99, 116, 105, 111, 110, 32, 102, 105, 101, 108, 100, 32, 116, 111, 111, 32, 119, 105, 100, 101, 32, 102, 111, 114, 32, 116, 104, 101, 32, 102, 111, 114, 109, 97, 116])]))
def laid_e2e_softfp_Binary32 {H : Type} : DataW H := .agg [.lit (.int .u64 32), .lit (.int .u64 8), .lit (.int .u64 23)]
def laid_e2e_softfp_Binary64 {H : Type} : DataW H := .agg [.lit (.int .u64 64), .lit (.int .u64 11), .lit (.int .u64 52)]
def laid_e2e_softfp_ErrWidth {H : Type} : DataW H := .iface "*errors.errorString" (.ptr (.agg [.lit (.string [115, 111, 102, 116, 102, 112, 58, 32, 115, 97, 109, 112, 108, 101, 32, 119, 105, 100, 116, 104, 32, 105, 115, 32, 110, 101, 105, 116, 104, 101, 114, 32, 51, 50, 32, 110, 111, 114, 32, 54, 52])]))
def laid_e2e_softfp_ErrMultiplier {H : Type} : DataW H := .iface "*errors.errorString" (.ptr (.agg [.lit (.string [115, 111, 102, 116, 102, 112, 58, 32, 97, 32, 109, 117, 108, 116, 105, 112, 108, 105, 101, 114, 32, 109, 117, 115, 116, 32, 98, 101, 32, 102, 105, 110, 105, 116, 101, 32, 97, 110, 100, 32, 110, 111, 116, 32, 122, 101, 114, 111])]))

/-- 'softfplaw.SplitJoinIdentity': WHATEVER THE INPUT: true; the input reads as it did. -/
def splitJoinIdentitySpec : ChangeSpec := { name := "splitJoinIdentity", fn := fun _ => fun
  | [d] => { results := [.lit (.bool true)], args := [d] }
  | _ => none }
def splitJoinIdentityRow : OpenClaim := { program := "qxb6500680agreatdoor", sum := "3716eef4f76b33a49971635b1c7b9bf914c8ec849a1e4f4b7850261d104caa55", func := "e2e/softfplaw.SplitJoinIdentity", spec := "splitJoinIdentity", inPlace := ["math/bits.Add64", "math/bits.Sub64"], unfollowed := true, recurses := true, named := ["e2e/softfp.Binary32", "e2e/softfp.Binary64", "e2e/softfp.ErrWidth", "math/bits.divideError", "math/bits.overflowError", "internal/strconv.uint64pow10", "math/bits.deBruijn32tab", "math/bits.deBruijn64tab", "e2e/softfp.ErrExpField", "e2e/softfp.ErrFracField"], apart := false, laid := [("math/bits.deBruijn32tab", laid_math_bits_deBruijn32tab), ("math/bits.deBruijn64tab", laid_math_bits_deBruijn64tab), ("internal/strconv.uint64pow10", laid_internal_strconv_uint64pow10), ("e2e/softfp.ErrExpField", laid_e2e_softfp_ErrExpField), ("e2e/softfp.ErrFracField", laid_e2e_softfp_ErrFracField), ("e2e/softfp.Binary32", laid_e2e_softfp_Binary32), ("e2e/softfp.Binary64", laid_e2e_softfp_Binary64), ("e2e/softfp.ErrWidth", laid_e2e_softfp_ErrWidth)] }
def SplitJoinIdentitySaid : Prop := splitJoinIdentityRow.holds Tryz.pinned (OpenSpec.ofChange splitJoinIdentitySpec)

/-- ITS FALSE NEIGHBOUR: 'it returns false'. Refute it at one input. -/
def splitJoinIdentityWrong : ChangeSpec := { name := "splitJoinIdentity", fn := fun _ => fun
  | [d] => { results := [.lit (.bool false)], args := [d] }
  | _ => none }
def SplitJoinIdentityWrongFalsely : Prop := splitJoinIdentityRow.holds Tryz.pinned (OpenSpec.ofChange splitJoinIdentityWrong)

/-- 'softfplaw.ClassesPartition': WHATEVER THE INPUT: true; the input reads as it did. -/
def classesPartitionSpec : ChangeSpec := { name := "classesPartition", fn := fun _ => fun
  | [d] => { results := [.lit (.bool true)], args := [d] }
  | _ => none }
def classesPartitionRow : OpenClaim := { program := "qxb6500680agreatdoor", sum := "3716eef4f76b33a49971635b1c7b9bf914c8ec849a1e4f4b7850261d104caa55", func := "e2e/softfplaw.ClassesPartition", spec := "classesPartition", inPlace := ["math/bits.Add64", "math/bits.Sub64"], unfollowed := true, recurses := true, named := ["e2e/softfp.Binary32", "e2e/softfp.Binary64", "e2e/softfp.ErrWidth", "math/bits.divideError", "math/bits.overflowError", "internal/strconv.uint64pow10", "math/bits.deBruijn32tab", "math/bits.deBruijn64tab"], apart := false, laid := [("math/bits.deBruijn32tab", laid_math_bits_deBruijn32tab), ("math/bits.deBruijn64tab", laid_math_bits_deBruijn64tab), ("internal/strconv.uint64pow10", laid_internal_strconv_uint64pow10), ("e2e/softfp.Binary32", laid_e2e_softfp_Binary32), ("e2e/softfp.Binary64", laid_e2e_softfp_Binary64), ("e2e/softfp.ErrWidth", laid_e2e_softfp_ErrWidth)] }
def ClassesPartitionSaid : Prop := classesPartitionRow.holds Tryz.pinned (OpenSpec.ofChange classesPartitionSpec)

/-- ITS FALSE NEIGHBOUR: 'it returns false'. Refute it at one input. -/
def classesPartitionWrong : ChangeSpec := { name := "classesPartition", fn := fun _ => fun
  | [d] => { results := [.lit (.bool false)], args := [d] }
  | _ => none }
def ClassesPartitionWrongFalsely : Prop := classesPartitionRow.holds Tryz.pinned (OpenSpec.ofChange classesPartitionWrong)

/-- 'softfplaw.TextRoundTrips': WHATEVER THE INPUT: true; the input reads as it did. -/
def textRoundTripsSpec : ChangeSpec := { name := "textRoundTrips", fn := fun _ => fun
  | [d] => { results := [.lit (.bool true)], args := [d] }
  | _ => none }
def textRoundTripsRow : OpenClaim := { program := "qxb6500680agreatdoor", sum := "3716eef4f76b33a49971635b1c7b9bf914c8ec849a1e4f4b7850261d104caa55", func := "e2e/softfplaw.TextRoundTrips", spec := "textRoundTrips", inPlace := ["math/bits.Add64", "math/bits.Sub64"], unfollowed := true, recurses := true, named := ["e2e/softfp.Binary32", "e2e/softfp.Binary64", "e2e/softfp.ErrWidth", "math/bits.divideError", "math/bits.overflowError", "internal/strconv.uint64pow10", "math/bits.deBruijn32tab", "math/bits.deBruijn64tab"], apart := false, laid := [("math/bits.deBruijn32tab", laid_math_bits_deBruijn32tab), ("math/bits.deBruijn64tab", laid_math_bits_deBruijn64tab), ("internal/strconv.uint64pow10", laid_internal_strconv_uint64pow10), ("e2e/softfp.Binary32", laid_e2e_softfp_Binary32), ("e2e/softfp.Binary64", laid_e2e_softfp_Binary64), ("e2e/softfp.ErrWidth", laid_e2e_softfp_ErrWidth)] }
def TextRoundTripsSaid : Prop := textRoundTripsRow.holds Tryz.pinned (OpenSpec.ofChange textRoundTripsSpec)

/-- ITS FALSE NEIGHBOUR: 'it returns false'. Refute it at one input. -/
def textRoundTripsWrong : ChangeSpec := { name := "textRoundTrips", fn := fun _ => fun
  | [d] => { results := [.lit (.bool false)], args := [d] }
  | _ => none }
def TextRoundTripsWrongFalsely : Prop := textRoundTripsRow.holds Tryz.pinned (OpenSpec.ofChange textRoundTripsWrong)

/-- 'softfplaw.BytesRoundTrip': WHATEVER THE INPUT: true; the input reads as it did. -/
def bytesRoundTripSpec : ChangeSpec := { name := "bytesRoundTrip", fn := fun _ => fun
  | [d] => { results := [.lit (.bool true)], args := [d] }
  | _ => none }
def bytesRoundTripRow : OpenClaim := { program := "qxb6500680agreatdoor", sum := "3716eef4f76b33a49971635b1c7b9bf914c8ec849a1e4f4b7850261d104caa55", func := "e2e/softfplaw.BytesRoundTrip", spec := "bytesRoundTrip", inPlace := ["math/bits.Add64", "math/bits.Sub64"], unfollowed := true, recurses := true, named := ["e2e/softfp.Binary32", "e2e/softfp.Binary64", "e2e/softfp.ErrWidth", "math/bits.divideError", "math/bits.overflowError", "internal/strconv.uint64pow10", "math/bits.deBruijn32tab", "math/bits.deBruijn64tab"], apart := false, laid := [("math/bits.deBruijn32tab", laid_math_bits_deBruijn32tab), ("math/bits.deBruijn64tab", laid_math_bits_deBruijn64tab), ("internal/strconv.uint64pow10", laid_internal_strconv_uint64pow10), ("e2e/softfp.Binary32", laid_e2e_softfp_Binary32), ("e2e/softfp.Binary64", laid_e2e_softfp_Binary64), ("e2e/softfp.ErrWidth", laid_e2e_softfp_ErrWidth)] }
def BytesRoundTripSaid : Prop := bytesRoundTripRow.holds Tryz.pinned (OpenSpec.ofChange bytesRoundTripSpec)

/-- ITS FALSE NEIGHBOUR: 'it returns false'. Refute it at one input. -/
def bytesRoundTripWrong : ChangeSpec := { name := "bytesRoundTrip", fn := fun _ => fun
  | [d] => { results := [.lit (.bool false)], args := [d] }
  | _ => none }
def BytesRoundTripWrongFalsely : Prop := bytesRoundTripRow.holds Tryz.pinned (OpenSpec.ofChange bytesRoundTripWrong)

/-- 'softfplaw.BlocksAgree': WHATEVER THE INPUT: true; the input reads as it did. -/
def blocksAgreeSpec : ChangeSpec := { name := "blocksAgree", fn := fun _ => fun
  | [d] => { results := [.lit (.bool true)], args := [d] }
  | _ => none }
def blocksAgreeRow : OpenClaim := { program := "qxb6500680agreatdoor", sum := "3716eef4f76b33a49971635b1c7b9bf914c8ec849a1e4f4b7850261d104caa55", func := "e2e/softfplaw.BlocksAgree", spec := "blocksAgree", inPlace := ["math/bits.Add64", "math/bits.Sub64"], unfollowed := true, recurses := true, named := ["e2e/softfp.Binary32", "e2e/softfp.Binary64", "e2e/softfp.ErrWidth", "math/bits.divideError", "math/bits.overflowError", "internal/strconv.uint64pow10", "math/bits.deBruijn32tab", "math/bits.deBruijn64tab", "e2e/softfp.ErrMultiplier"], apart := false, laid := [("math/bits.deBruijn32tab", laid_math_bits_deBruijn32tab), ("math/bits.deBruijn64tab", laid_math_bits_deBruijn64tab), ("internal/strconv.uint64pow10", laid_internal_strconv_uint64pow10), ("e2e/softfp.Binary32", laid_e2e_softfp_Binary32), ("e2e/softfp.Binary64", laid_e2e_softfp_Binary64), ("e2e/softfp.ErrWidth", laid_e2e_softfp_ErrWidth), ("e2e/softfp.ErrMultiplier", laid_e2e_softfp_ErrMultiplier)] }
def BlocksAgreeSaid : Prop := blocksAgreeRow.holds Tryz.pinned (OpenSpec.ofChange blocksAgreeSpec)

/-- ITS FALSE NEIGHBOUR: 'it returns false'. Refute it at one input. -/
def blocksAgreeWrong : ChangeSpec := { name := "blocksAgree", fn := fun _ => fun
  | [d] => { results := [.lit (.bool false)], args := [d] }
  | _ => none }
def BlocksAgreeWrongFalsely : Prop := blocksAgreeRow.holds Tryz.pinned (OpenSpec.ofChange blocksAgreeWrong)

/-- 'softfplaw.ShortPathsAgree': WHATEVER THE INPUT: true; the input reads as it did. -/
def shortPathsAgreeSpec : ChangeSpec := { name := "shortPathsAgree", fn := fun _ => fun
  | [d] => { results := [.lit (.bool true)], args := [d] }
  | _ => none }
def shortPathsAgreeRow : OpenClaim := { program := "qxb6500680agreatdoor", sum := "3716eef4f76b33a49971635b1c7b9bf914c8ec849a1e4f4b7850261d104caa55", func := "e2e/softfplaw.ShortPathsAgree", spec := "shortPathsAgree", inPlace := ["math/bits.Add64", "math/bits.Sub64"], unfollowed := true, recurses := true, named := ["e2e/softfp.Binary32", "e2e/softfp.Binary64", "e2e/softfp.ErrWidth", "math/bits.divideError", "math/bits.overflowError", "internal/strconv.uint64pow10", "math/bits.deBruijn32tab", "math/bits.deBruijn64tab", "e2e/softfp.ErrMultiplier"], apart := false, laid := [("math/bits.deBruijn32tab", laid_math_bits_deBruijn32tab), ("math/bits.deBruijn64tab", laid_math_bits_deBruijn64tab), ("internal/strconv.uint64pow10", laid_internal_strconv_uint64pow10), ("e2e/softfp.Binary32", laid_e2e_softfp_Binary32), ("e2e/softfp.Binary64", laid_e2e_softfp_Binary64), ("e2e/softfp.ErrWidth", laid_e2e_softfp_ErrWidth), ("e2e/softfp.ErrMultiplier", laid_e2e_softfp_ErrMultiplier)] }
def ShortPathsAgreeSaid : Prop := shortPathsAgreeRow.holds Tryz.pinned (OpenSpec.ofChange shortPathsAgreeSpec)

/-- ITS FALSE NEIGHBOUR: 'it returns false'. Refute it at one input. -/
def shortPathsAgreeWrong : ChangeSpec := { name := "shortPathsAgree", fn := fun _ => fun
  | [d] => { results := [.lit (.bool false)], args := [d] }
  | _ => none }
def ShortPathsAgreeWrongFalsely : Prop := shortPathsAgreeRow.holds Tryz.pinned (OpenSpec.ofChange shortPathsAgreeWrong)

/-- 'softfplaw.MachineAgrees': WHATEVER THE INPUT: true; the input reads as it did. -/
def machineAgreesSpec : ChangeSpec := { name := "machineAgrees", fn := fun _ => fun
  | [d] => { results := [.lit (.bool true)], args := [d] }
  | _ => none }
def machineAgreesRow : OpenClaim := { program := "qxb6500680agreatdoor", sum := "3716eef4f76b33a49971635b1c7b9bf914c8ec849a1e4f4b7850261d104caa55", func := "e2e/softfplaw.MachineAgrees", spec := "machineAgrees", inPlace := ["math/bits.Add64", "math/bits.Sub64", "math.Float32frombits", "math.Float32bits", "math.RoundToEven", "math.Float64bits", "math.Float64frombits", "math.archCeil", "math.archFloor", "math.archTrunc"], unfollowed := true, recurses := true, named := ["e2e/softfp.Binary32", "e2e/softfp.Binary64", "e2e/softfp.ErrWidth", "math/bits.divideError", "math/bits.overflowError", "internal/strconv.uint64pow10", "math/bits.deBruijn32tab", "math/bits.deBruijn64tab"], apart := false, laid := [("math/bits.deBruijn32tab", laid_math_bits_deBruijn32tab), ("math/bits.deBruijn64tab", laid_math_bits_deBruijn64tab), ("internal/strconv.uint64pow10", laid_internal_strconv_uint64pow10), ("e2e/softfp.Binary32", laid_e2e_softfp_Binary32), ("e2e/softfp.Binary64", laid_e2e_softfp_Binary64), ("e2e/softfp.ErrWidth", laid_e2e_softfp_ErrWidth)] }
def MachineAgreesSaid : Prop := machineAgreesRow.holds Tryz.pinned (OpenSpec.ofChange machineAgreesSpec)

/-- ITS FALSE NEIGHBOUR: 'it returns false'. Refute it at one input. -/
def machineAgreesWrong : ChangeSpec := { name := "machineAgrees", fn := fun _ => fun
  | [d] => { results := [.lit (.bool false)], args := [d] }
  | _ => none }
def MachineAgreesWrongFalsely : Prop := machineAgreesRow.holds Tryz.pinned (OpenSpec.ofChange machineAgreesWrong)

end Rows
end Go.Proofs.Qxb6500680aGreatDoor
