/-
  DERIVED. GIVEN WITH THE SEED: THE CARDS: each row of Qxb6500680aGreatDoorRows.lean that lists a variable, with what it lists TIED to the program's text (the seventh form; the later family's looks); each row that meets fmt, with fmt's text TOLD by the authors' own Lean function (tested against real Go, not proved from fmt's source: count such statements apart). THE CARD IS WHAT COUNTS. Prove the row's statement (the work); the ties are given (Qxb6500680aGreatDoorTie.lean); close each card by the builder's one call (the guide's Derived/Test/ToyasCard.lean, 'card_holds'). Laid BY PROGRAM, IN A SANDBOX (cutbox-door.mjs). By AI agents, Wed Nov 11 2026. No macro, syntax, notation, axiom, sorry.
-/
import Derived.Test.Qxb6500680aGreatDoorRows
import GoSem.ClaimSeven
namespace Go.Proofs.Qxb6500680aGreatDoor
namespace Rows

/-- THE TIED CARD OF 'softfplaw.SplitJoinIdentity'. -/
def splitJoinIdentityCard : Claim7 := { stood := { row := splitJoinIdentityRow, standIns := [], harness := (true, "bc30e7aaa1f6196fb61e32f41cba15c3710d5bc92e2cb64de43c40be3a6a4ca4"), looks := false }, kinds := [], alts := [], laidByText := true, laidKinds := [.data, .data, .data, .sentinel, .sentinel, .wider, .wider, .sentinel], laidTests := true, laidLooks := .later }
def SplitJoinIdentityCardSaid : Prop := Claim7.holds Tryz.pinned (.plain (OpenSpec.ofChange splitJoinIdentitySpec)) splitJoinIdentityCard

/-- THE TIED CARD OF 'softfplaw.ClassesPartition'. -/
def classesPartitionCard : Claim7 := { stood := { row := classesPartitionRow, standIns := [], harness := (true, "bc30e7aaa1f6196fb61e32f41cba15c3710d5bc92e2cb64de43c40be3a6a4ca4"), looks := false }, kinds := [], alts := [], laidByText := true, laidKinds := [.data, .data, .data, .wider, .wider, .sentinel], laidTests := true, laidLooks := .later }
def ClassesPartitionCardSaid : Prop := Claim7.holds Tryz.pinned (.plain (OpenSpec.ofChange classesPartitionSpec)) classesPartitionCard

/-- THE TIED CARD OF 'softfplaw.TextRoundTrips'. -/
def textRoundTripsCard : Claim7 := { stood := { row := textRoundTripsRow, standIns := [], harness := (true, "bc30e7aaa1f6196fb61e32f41cba15c3710d5bc92e2cb64de43c40be3a6a4ca4"), looks := false }, kinds := [], alts := [], laidByText := true, laidKinds := [.data, .data, .data, .wider, .wider, .sentinel], laidTests := true, laidLooks := .later }
def TextRoundTripsCardSaid : Prop := Claim7.holds Tryz.pinned (.plain (OpenSpec.ofChange textRoundTripsSpec)) textRoundTripsCard

/-- THE TIED CARD OF 'softfplaw.BytesRoundTrip'. -/
def bytesRoundTripCard : Claim7 := { stood := { row := bytesRoundTripRow, standIns := [], harness := (true, "bc30e7aaa1f6196fb61e32f41cba15c3710d5bc92e2cb64de43c40be3a6a4ca4"), looks := false }, kinds := [], alts := [], laidByText := true, laidKinds := [.data, .data, .data, .wider, .wider, .sentinel], laidTests := true, laidLooks := .later }
def BytesRoundTripCardSaid : Prop := Claim7.holds Tryz.pinned (.plain (OpenSpec.ofChange bytesRoundTripSpec)) bytesRoundTripCard

/-- THE TIED CARD OF 'softfplaw.BlocksAgree'. -/
def blocksAgreeCard : Claim7 := { stood := { row := blocksAgreeRow, standIns := [], harness := (true, "bc30e7aaa1f6196fb61e32f41cba15c3710d5bc92e2cb64de43c40be3a6a4ca4"), looks := false }, kinds := [], alts := [], laidByText := true, laidKinds := [.data, .data, .data, .wider, .wider, .sentinel, .sentinel], laidTests := true, laidLooks := .later }
def BlocksAgreeCardSaid : Prop := Claim7.holds Tryz.pinned (.plain (OpenSpec.ofChange blocksAgreeSpec)) blocksAgreeCard

/-- THE TIED CARD OF 'softfplaw.ShortPathsAgree'. -/
def shortPathsAgreeCard : Claim7 := { stood := { row := shortPathsAgreeRow, standIns := [], harness := (true, "bc30e7aaa1f6196fb61e32f41cba15c3710d5bc92e2cb64de43c40be3a6a4ca4"), looks := false }, kinds := [], alts := [], laidByText := true, laidKinds := [.data, .data, .data, .wider, .wider, .sentinel, .sentinel], laidTests := true, laidLooks := .later }
def ShortPathsAgreeCardSaid : Prop := Claim7.holds Tryz.pinned (.plain (OpenSpec.ofChange shortPathsAgreeSpec)) shortPathsAgreeCard

/-- THE TIED CARD OF 'softfplaw.MachineAgrees'. -/
def machineAgreesCard : Claim7 := { stood := { row := machineAgreesRow, standIns := [], harness := (true, "bc30e7aaa1f6196fb61e32f41cba15c3710d5bc92e2cb64de43c40be3a6a4ca4"), looks := false }, kinds := [], alts := [], laidByText := true, laidKinds := [.data, .data, .data, .wider, .wider, .sentinel], laidTests := true, laidLooks := .later }
def MachineAgreesCardSaid : Prop := Claim7.holds Tryz.pinned (.plain (OpenSpec.ofChange machineAgreesSpec)) machineAgreesCard
end Rows
end Go.Proofs.Qxb6500680aGreatDoor
