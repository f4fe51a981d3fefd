import Derived.Test.Qxb6500680aGreatDoorBuf
import Derived.Test.Qxb6500680aGreatDoorDv
import Derived.Test.Qxb6500680aGreatDoorTailc
namespace Go.Proofs.Qxb6500680aGreatDoor
open Go.RowKit Go.BigFrame
open Go.Lib (byteCells byteCells_append strCells_eq)
set_option linter.unusedSimpArgs false
attribute [local go_sem] ext_cell_if ext_frozen_if alloc_cell_if alloc_frozen_if ext_size ext_ext
theorem hexLen32 (w : World) : Calls Tryz.prog 186 #[.agg #[.int .u64 32, .int .u64 8, .int .u64 23]] w fun e w' => e = .returned (.int .i64 6) ∧ ∃ x, w' = ext w x := by
  go_enter Tryz.func186, Tryz.ntmps186
  go_wp2
  go_ret
  exact ⟨rfl, Gr.of (by repeat (first | exact Gr.refl _ | refine Gr.alloc ?_ _ | refine Gr.ext ?_ _ | refine Gr.drew ?_))⟩
theorem emin32 (w : World) : Calls Tryz.prog 187 #[.agg #[.int .u64 32, .int .u64 8, .int .u64 23]] w fun e w' => e = .returned (.int .i64 (-126)) ∧ ∃ x, w' = ext w x := by
  go_enter Tryz.func187, Tryz.ntmps187
  go_wp2_with (go_at_call 145; (with_reducible refine (bias32 _).mono ?_); rintro _ _ ⟨rfl, x1, rfl⟩)
  go_ret
  exact ⟨rfl, Gr.of (by repeat (first | exact Gr.refl _ | refine Gr.alloc ?_ _ | refine Gr.ext ?_ _ | refine Gr.drew ?_))⟩
theorem emax32 (w : World) : Calls Tryz.prog 192 #[.agg #[.int .u64 32, .int .u64 8, .int .u64 23]] w fun e w' => e = .returned (.int .i64 127) ∧ ∃ x, w' = ext w x := by
  go_enter Tryz.func192, Tryz.ntmps192
  go_wp2_with (go_at_call 145; (with_reducible refine (bias32 _).mono ?_); rintro _ _ ⟨rfl, x1, rfl⟩)
  go_ret
  exact ⟨rfl, Gr.of (by repeat (first | exact Gr.refl _ | refine Gr.alloc ?_ _ | refine Gr.ext ?_ _ | refine Gr.drew ?_))⟩
theorem fracPad32 (w : World) : Calls Tryz.prog 188 #[.agg #[.int .u64 32, .int .u64 8, .int .u64 23]] w fun e w' => e = .returned (.int .u64 1) ∧ ∃ x, w' = ext w x := by
  go_enter Tryz.func188, Tryz.ntmps188
  go_wp2
  refine wp_region_ext (by kernel_rfl) (by kernel_rfl) ?_
  repeat (go_big_quiet_step ((go_at_call 186; first | with_reducible exact Calls_ext (hexLen32 _) | with_reducible exact Calls_ext2 (hexLen32 _))))
  refine wpQuiet_nil ?_
  rintro _ ⟨x, rfl⟩
  go_wp2
  go_ret
  exact ⟨rfl, Gr.of (by repeat (first | exact Gr.refl _ | refine Gr.alloc ?_ _ | refine Gr.ext ?_ _ | refine Gr.drew ?_))⟩
theorem signBit32 (p : Int) (w : World) : Calls Tryz.prog 165 #[.agg #[.int .u64 32, .int .u64 8, .int .u64 23], .int .u64 p] w fun e w' => e = .returned (.bool (bits .and .u64 p 2147483648 != 0)) ∧ ∃ x, w' = ext w x := by
  go_enter Tryz.func165, Tryz.ntmps165
  go_wp2_with (go_at_call 89; (with_reducible refine (signMask32 _).mono ?_); rintro _ _ ⟨rfl, x1, rfl⟩)
  go_ret
  exact ⟨rfl, Gr.of (by repeat (first | exact Gr.refl _ | refine Gr.alloc ?_ _ | refine Gr.ext ?_ _ | refine Gr.drew ?_))⟩
theorem hexLen64 (w : World) : Calls Tryz.prog 186 #[.agg #[.int .u64 64, .int .u64 11, .int .u64 52]] w fun e w' => e = .returned (.int .i64 13) ∧ ∃ x, w' = ext w x := by
  go_enter Tryz.func186, Tryz.ntmps186
  go_wp2
  go_ret
  exact ⟨rfl, Gr.of (by repeat (first | exact Gr.refl _ | refine Gr.alloc ?_ _ | refine Gr.ext ?_ _ | refine Gr.drew ?_))⟩
theorem emin64 (w : World) : Calls Tryz.prog 187 #[.agg #[.int .u64 64, .int .u64 11, .int .u64 52]] w fun e w' => e = .returned (.int .i64 (-1022)) ∧ ∃ x, w' = ext w x := by
  go_enter Tryz.func187, Tryz.ntmps187
  go_wp2_with (go_at_call 145; (with_reducible refine (bias64 _).mono ?_); rintro _ _ ⟨rfl, x1, rfl⟩)
  go_ret
  exact ⟨rfl, Gr.of (by repeat (first | exact Gr.refl _ | refine Gr.alloc ?_ _ | refine Gr.ext ?_ _ | refine Gr.drew ?_))⟩
theorem emax64 (w : World) : Calls Tryz.prog 192 #[.agg #[.int .u64 64, .int .u64 11, .int .u64 52]] w fun e w' => e = .returned (.int .i64 1023) ∧ ∃ x, w' = ext w x := by
  go_enter Tryz.func192, Tryz.ntmps192
  go_wp2_with (go_at_call 145; (with_reducible refine (bias64 _).mono ?_); rintro _ _ ⟨rfl, x1, rfl⟩)
  go_ret
  exact ⟨rfl, Gr.of (by repeat (first | exact Gr.refl _ | refine Gr.alloc ?_ _ | refine Gr.ext ?_ _ | refine Gr.drew ?_))⟩
theorem fracPad64 (w : World) : Calls Tryz.prog 188 #[.agg #[.int .u64 64, .int .u64 11, .int .u64 52]] w fun e w' => e = .returned (.int .u64 0) ∧ ∃ x, w' = ext w x := by
  go_enter Tryz.func188, Tryz.ntmps188
  go_wp2
  refine wp_region_ext (by kernel_rfl) (by kernel_rfl) ?_
  repeat (go_big_quiet_step ((go_at_call 186; first | with_reducible exact Calls_ext (hexLen64 _) | with_reducible exact Calls_ext2 (hexLen64 _))))
  refine wpQuiet_nil ?_
  rintro _ ⟨x, rfl⟩
  go_wp2
  go_ret
  exact ⟨rfl, Gr.of (by repeat (first | exact Gr.refl _ | refine Gr.alloc ?_ _ | refine Gr.ext ?_ _ | refine Gr.drew ?_))⟩
theorem signBit64 (p : Int) (w : World) : Calls Tryz.prog 165 #[.agg #[.int .u64 64, .int .u64 11, .int .u64 52], .int .u64 p] w fun e w' => e = .returned (.bool (bits .and .u64 p 9223372036854775808 != 0)) ∧ ∃ x, w' = ext w x := by
  go_enter Tryz.func165, Tryz.ntmps165
  go_wp2_with (go_at_call 89; (with_reducible refine (signMask64 _).mono ?_); rintro _ _ ⟨rfl, x1, rfl⟩)
  go_ret
  exact ⟨rfl, Gr.of (by repeat (first | exact Gr.refl _ | refine Gr.alloc ?_ _ | refine Gr.ext ?_ _ | refine Gr.drew ?_))⟩
end Go.Proofs.Qxb6500680aGreatDoor
