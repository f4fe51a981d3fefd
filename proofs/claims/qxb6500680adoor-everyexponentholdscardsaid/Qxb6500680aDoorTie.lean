/-
  DERIVED. GIVEN WITH THE SEED: THE PROGRAM's TIES (one call each: nine closed facts by the kernel) AND EACH ROW's TIE, after the 31st guide's Derived/Test/Toyas{Tie, Card}.lean. No idea stands in it: it is a product of the set-up. Laid BY PROGRAM, IN A SANDBOX (cutbox-door.mjs). By AI agents, Wed Nov 11 2026. No macro, syntax, notation, axiom, sorry.
-/
import Derived.Test.Qxb6500680aDoorRows
import Derived.LaidByTextLater
import Derived.SevenTiedAt
import Derived.LaidSub
import Derived.LaidOnce
namespace Go.Proofs.Qxb6500680aDoor
open Go
set_option maxRecDepth 100000
theorem seatTie1 : Tryd.prog.laidByTextLater [("e2e/softfp.ErrExpField", Rows.laid_e2e_softfp_ErrExpField), ("e2e/softfp.ErrFracField", Rows.laid_e2e_softfp_ErrFracField), ("e2e/softfp.Binary32", Rows.laid_e2e_softfp_Binary32), ("e2e/softfp.Binary64", Rows.laid_e2e_softfp_Binary64), ("e2e/softfp.ErrWidth", Rows.laid_e2e_softfp_ErrWidth)] [.sentinel, .sentinel, .wider, .wider, .sentinel] true :=
  Program.laidByTextLater_by_one 76 8 4 (by kernel_rfl) (by kernel_rfl) (by kernel_rfl) (by kernel_rfl) (by kernel_rfl) (by kernel_rfl) (fun _ _ => by kernel_rfl)
theorem noOwnUnsafe : Tryd.pinned.checked.prog.headLifts.contains "ownunsafe" = false := by kernel_rfl
theorem tie : Tryd.prog.laidByTextLater [("e2e/softfp.ErrExpField", Rows.laid_e2e_softfp_ErrExpField), ("e2e/softfp.ErrFracField", Rows.laid_e2e_softfp_ErrFracField), ("e2e/softfp.Binary32", Rows.laid_e2e_softfp_Binary32), ("e2e/softfp.Binary64", Rows.laid_e2e_softfp_Binary64), ("e2e/softfp.ErrWidth", Rows.laid_e2e_softfp_ErrWidth)] [.sentinel, .sentinel, .wider, .wider, .sentinel] true :=
  Program.laidByTextLater.sub seatTie1 ["e2e/softfp.ErrExpField", "e2e/softfp.ErrFracField", "e2e/softfp.Binary32", "e2e/softfp.Binary64", "e2e/softfp.ErrWidth"] (by kernel_rfl) (by kernel_rfl)
theorem everyExponentHolds_row_tie : Rows.everyExponentHoldsRow.laidByTextAt .later Tryd.pinned [.sentinel, .sentinel, .wider, .wider, .sentinel] true :=
  OpenClaim.laidByTextAt_later rfl rfl tie noOwnUnsafe
end Go.Proofs.Qxb6500680aDoor
