/-
  DERIVED. GIVEN WITH THE SEED: THE PROGRAM's TIES (one call each: nine closed facts by the kernel) AND EACH ROW's TIE, after the 31st guide's Derived/Test/Toyas{Tie, Card}.lean. No idea stands in it: it is a product of the set-up. Laid BY PROGRAM, IN A SANDBOX (cutbox-door.mjs). By AI agents, Wed Nov 11 2026. No macro, syntax, notation, axiom, sorry.
-/
import Derived.Test.Qxb6500680aGreatDoorRows
import Derived.LaidByTextLater
import Derived.SevenTiedAt
import Derived.LaidSub
import Derived.LaidOnce
namespace Go.Proofs.Qxb6500680aGreatDoor
open Go
set_option maxRecDepth 100000
theorem seatTie1 : Tryz.prog.laidByTextLater [("math/bits.deBruijn32tab", Rows.laid_math_bits_deBruijn32tab), ("math/bits.deBruijn64tab", Rows.laid_math_bits_deBruijn64tab), ("internal/strconv.uint64pow10", Rows.laid_internal_strconv_uint64pow10), ("e2e/softfp.ErrExpField", Rows.laid_e2e_softfp_ErrExpField), ("e2e/softfp.ErrFracField", Rows.laid_e2e_softfp_ErrFracField), ("e2e/softfp.Binary32", Rows.laid_e2e_softfp_Binary32), ("e2e/softfp.Binary64", Rows.laid_e2e_softfp_Binary64), ("e2e/softfp.ErrWidth", Rows.laid_e2e_softfp_ErrWidth), ("e2e/softfp.ErrMultiplier", Rows.laid_e2e_softfp_ErrMultiplier)] [.data, .data, .data, .sentinel, .sentinel, .wider, .wider, .sentinel, .sentinel] true :=
  Program.laidByTextLater_by_one 110 8 65 (by kernel_rfl) (by kernel_rfl) (by kernel_rfl) (by kernel_rfl) (by kernel_rfl) (by kernel_rfl) (fun _ _ => by kernel_rfl)
theorem noOwnUnsafe : Tryz.pinned.checked.prog.headLifts.contains "ownunsafe" = false := by kernel_rfl
theorem tie : Tryz.prog.laidByTextLater [("math/bits.deBruijn32tab", Rows.laid_math_bits_deBruijn32tab), ("math/bits.deBruijn64tab", Rows.laid_math_bits_deBruijn64tab), ("internal/strconv.uint64pow10", Rows.laid_internal_strconv_uint64pow10), ("e2e/softfp.ErrExpField", Rows.laid_e2e_softfp_ErrExpField), ("e2e/softfp.ErrFracField", Rows.laid_e2e_softfp_ErrFracField), ("e2e/softfp.Binary32", Rows.laid_e2e_softfp_Binary32), ("e2e/softfp.Binary64", Rows.laid_e2e_softfp_Binary64), ("e2e/softfp.ErrWidth", Rows.laid_e2e_softfp_ErrWidth)] [.data, .data, .data, .sentinel, .sentinel, .wider, .wider, .sentinel] true :=
  Program.laidByTextLater.sub seatTie1 ["math/bits.deBruijn32tab", "math/bits.deBruijn64tab", "internal/strconv.uint64pow10", "e2e/softfp.ErrExpField", "e2e/softfp.ErrFracField", "e2e/softfp.Binary32", "e2e/softfp.Binary64", "e2e/softfp.ErrWidth"] (by kernel_rfl) (by kernel_rfl)
theorem splitJoinIdentity_row_tie : Rows.splitJoinIdentityRow.laidByTextAt .later Tryz.pinned [.data, .data, .data, .sentinel, .sentinel, .wider, .wider, .sentinel] true :=
  OpenClaim.laidByTextAt_later rfl rfl tie noOwnUnsafe
theorem tie2 : Tryz.prog.laidByTextLater [("math/bits.deBruijn32tab", Rows.laid_math_bits_deBruijn32tab), ("math/bits.deBruijn64tab", Rows.laid_math_bits_deBruijn64tab), ("internal/strconv.uint64pow10", Rows.laid_internal_strconv_uint64pow10), ("e2e/softfp.Binary32", Rows.laid_e2e_softfp_Binary32), ("e2e/softfp.Binary64", Rows.laid_e2e_softfp_Binary64), ("e2e/softfp.ErrWidth", Rows.laid_e2e_softfp_ErrWidth)] [.data, .data, .data, .wider, .wider, .sentinel] true :=
  Program.laidByTextLater.sub seatTie1 ["math/bits.deBruijn32tab", "math/bits.deBruijn64tab", "internal/strconv.uint64pow10", "e2e/softfp.Binary32", "e2e/softfp.Binary64", "e2e/softfp.ErrWidth"] (by kernel_rfl) (by kernel_rfl)
theorem classesPartition_row_tie : Rows.classesPartitionRow.laidByTextAt .later Tryz.pinned [.data, .data, .data, .wider, .wider, .sentinel] true :=
  OpenClaim.laidByTextAt_later rfl rfl tie2 noOwnUnsafe
theorem textRoundTrips_row_tie : Rows.textRoundTripsRow.laidByTextAt .later Tryz.pinned [.data, .data, .data, .wider, .wider, .sentinel] true :=
  OpenClaim.laidByTextAt_later rfl rfl tie2 noOwnUnsafe
theorem bytesRoundTrip_row_tie : Rows.bytesRoundTripRow.laidByTextAt .later Tryz.pinned [.data, .data, .data, .wider, .wider, .sentinel] true :=
  OpenClaim.laidByTextAt_later rfl rfl tie2 noOwnUnsafe
theorem machineAgrees_row_tie : Rows.machineAgreesRow.laidByTextAt .later Tryz.pinned [.data, .data, .data, .wider, .wider, .sentinel] true :=
  OpenClaim.laidByTextAt_later rfl rfl tie2 noOwnUnsafe
theorem tie3 : Tryz.prog.laidByTextLater [("math/bits.deBruijn32tab", Rows.laid_math_bits_deBruijn32tab), ("math/bits.deBruijn64tab", Rows.laid_math_bits_deBruijn64tab), ("internal/strconv.uint64pow10", Rows.laid_internal_strconv_uint64pow10), ("e2e/softfp.Binary32", Rows.laid_e2e_softfp_Binary32), ("e2e/softfp.Binary64", Rows.laid_e2e_softfp_Binary64), ("e2e/softfp.ErrWidth", Rows.laid_e2e_softfp_ErrWidth), ("e2e/softfp.ErrMultiplier", Rows.laid_e2e_softfp_ErrMultiplier)] [.data, .data, .data, .wider, .wider, .sentinel, .sentinel] true :=
  Program.laidByTextLater.sub seatTie1 ["math/bits.deBruijn32tab", "math/bits.deBruijn64tab", "internal/strconv.uint64pow10", "e2e/softfp.Binary32", "e2e/softfp.Binary64", "e2e/softfp.ErrWidth", "e2e/softfp.ErrMultiplier"] (by kernel_rfl) (by kernel_rfl)
theorem blocksAgree_row_tie : Rows.blocksAgreeRow.laidByTextAt .later Tryz.pinned [.data, .data, .data, .wider, .wider, .sentinel, .sentinel] true :=
  OpenClaim.laidByTextAt_later rfl rfl tie3 noOwnUnsafe
theorem shortPathsAgree_row_tie : Rows.shortPathsAgreeRow.laidByTextAt .later Tryz.pinned [.data, .data, .data, .wider, .wider, .sentinel, .sentinel] true :=
  OpenClaim.laidByTextAt_later rfl rfl tie3 noOwnUnsafe
end Go.Proofs.Qxb6500680aGreatDoor
