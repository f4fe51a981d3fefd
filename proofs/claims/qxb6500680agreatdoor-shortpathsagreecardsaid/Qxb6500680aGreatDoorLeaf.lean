import Derived.Test.Qxb6500680aGreatDoorRows
import Derived.Test.Qxb6500680aGreatDoorKit
namespace Go.Proofs.Qxb6500680aGreatDoor
open Go.RowKit Go.BigFrame
attribute [local go_sem] ext_cell_if ext_frozen_if alloc_cell_if alloc_frozen_if ext_size ext_ext

set_option maxHeartbeats 400000 in
theorem signMask32 (w : World) :
    Calls Tryz.prog 89 #[.agg #[.int .u64 32, .int .u64 8, .int .u64 23]] w fun e w' => e = .returned (.int .u64 2147483648) ∧ ∃ x, w' = ext w x := by
  go_enter Tryz.func89, Tryz.ntmps89
  go_wp2
  go_ret
  exact ⟨rfl, Gr.of (by repeat (first | exact Gr.refl _ | refine Gr.alloc ?_ _ | refine Gr.ext ?_ _ | refine Gr.drew ?_))⟩

set_option maxHeartbeats 400000 in
theorem maxBiased32 (w : World) :
    Calls Tryz.prog 183 #[.agg #[.int .u64 32, .int .u64 8, .int .u64 23]] w fun e w' => e = .returned (.int .u64 255) ∧ ∃ x, w' = ext w x := by
  go_enter Tryz.func183, Tryz.ntmps183
  go_wp2
  go_ret
  exact ⟨rfl, Gr.of (by repeat (first | exact Gr.refl _ | refine Gr.alloc ?_ _ | refine Gr.ext ?_ _ | refine Gr.drew ?_))⟩

set_option maxHeartbeats 400000 in
theorem fracMask32 (w : World) :
    Calls Tryz.prog 156 #[.agg #[.int .u64 32, .int .u64 8, .int .u64 23]] w fun e w' => e = .returned (.int .u64 8388607) ∧ ∃ x, w' = ext w x := by
  go_enter Tryz.func156, Tryz.ntmps156
  go_wp2
  go_ret
  exact ⟨rfl, Gr.of (by repeat (first | exact Gr.refl _ | refine Gr.alloc ?_ _ | refine Gr.ext ?_ _ | refine Gr.drew ?_))⟩

set_option maxHeartbeats 400000 in
theorem magMask32 (w : World) :
    Calls Tryz.prog 90 #[.agg #[.int .u64 32, .int .u64 8, .int .u64 23]] w fun e w' => e = .returned (.int .u64 2147483647) ∧ ∃ x, w' = ext w x := by
  go_enter Tryz.func90, Tryz.ntmps90
  go_wp2
  go_ret
  exact ⟨rfl, Gr.of (by repeat (first | exact Gr.refl _ | refine Gr.alloc ?_ _ | refine Gr.ext ?_ _ | refine Gr.drew ?_))⟩

set_option maxHeartbeats 400000 in
theorem hiddenBit32 (w : World) :
    Calls Tryz.prog 158 #[.agg #[.int .u64 32, .int .u64 8, .int .u64 23]] w fun e w' => e = .returned (.int .u64 8388608) ∧ ∃ x, w' = ext w x := by
  go_enter Tryz.func158, Tryz.ntmps158
  go_wp2
  go_ret
  exact ⟨rfl, Gr.of (by repeat (first | exact Gr.refl _ | refine Gr.alloc ?_ _ | refine Gr.ext ?_ _ | refine Gr.drew ?_))⟩

set_option maxHeartbeats 400000 in
theorem topExp32 (w : World) :
    Calls Tryz.prog 184 #[.agg #[.int .i64 32, .int .i64 8, .int .i64 23]] w fun e w' => e = .returned (.int .u64 255) ∧ ∃ x, w' = ext w x := by
  go_enter Tryz.func184, Tryz.ntmps184
  go_wp2
  go_ret
  exact ⟨rfl, Gr.of (by repeat (first | exact Gr.refl _ | refine Gr.alloc ?_ _ | refine Gr.ext ?_ _ | refine Gr.drew ?_))⟩

set_option maxHeartbeats 400000 in
theorem quietBit32 (w : World) :
    Calls Tryz.prog 173 #[.agg #[.int .u64 32, .int .u64 8, .int .u64 23]] w fun e w' => e = .returned (.int .u64 4194304) ∧ ∃ x, w' = ext w x := by
  go_enter Tryz.func173, Tryz.ntmps173
  go_wp2
  go_ret
  exact ⟨rfl, Gr.of (by repeat (first | exact Gr.refl _ | refine Gr.alloc ?_ _ | refine Gr.ext ?_ _ | refine Gr.drew ?_))⟩

set_option maxHeartbeats 400000 in
theorem expMask32 (w : World) :
    Calls Tryz.prog 85 #[.agg #[.int .u64 32, .int .u64 8, .int .u64 23]] w fun e w' => e = .returned (.int .u64 2139095040) ∧ ∃ x, w' = ext w x := by
  go_enter Tryz.func85, Tryz.ntmps85
  go_wp2
  refine wp_region_ext (by kernel_rfl) (by kernel_rfl) ?_
  repeat (go_big_quiet_step ((go_at_call 183; exact Calls_ext (maxBiased32 _))))
  refine wpQuiet_nil ?_
  rintro _ ⟨x, rfl⟩
  go_wp2
  go_ret
  exact ⟨rfl, Gr.of (by repeat (first | exact Gr.refl _ | refine Gr.alloc ?_ _ | refine Gr.ext ?_ _ | refine Gr.drew ?_))⟩

set_option maxHeartbeats 400000 in
theorem signMask64 (w : World) :
    Calls Tryz.prog 89 #[.agg #[.int .u64 64, .int .u64 11, .int .u64 52]] w fun e w' => e = .returned (.int .u64 9223372036854775808) ∧ ∃ x, w' = ext w x := by
  go_enter Tryz.func89, Tryz.ntmps89
  go_wp2
  go_ret
  exact ⟨rfl, Gr.of (by repeat (first | exact Gr.refl _ | refine Gr.alloc ?_ _ | refine Gr.ext ?_ _ | refine Gr.drew ?_))⟩

set_option maxHeartbeats 400000 in
theorem maxBiased64 (w : World) :
    Calls Tryz.prog 183 #[.agg #[.int .u64 64, .int .u64 11, .int .u64 52]] w fun e w' => e = .returned (.int .u64 2047) ∧ ∃ x, w' = ext w x := by
  go_enter Tryz.func183, Tryz.ntmps183
  go_wp2
  go_ret
  exact ⟨rfl, Gr.of (by repeat (first | exact Gr.refl _ | refine Gr.alloc ?_ _ | refine Gr.ext ?_ _ | refine Gr.drew ?_))⟩

set_option maxHeartbeats 400000 in
theorem fracMask64 (w : World) :
    Calls Tryz.prog 156 #[.agg #[.int .u64 64, .int .u64 11, .int .u64 52]] w fun e w' => e = .returned (.int .u64 4503599627370495) ∧ ∃ x, w' = ext w x := by
  go_enter Tryz.func156, Tryz.ntmps156
  go_wp2
  go_ret
  exact ⟨rfl, Gr.of (by repeat (first | exact Gr.refl _ | refine Gr.alloc ?_ _ | refine Gr.ext ?_ _ | refine Gr.drew ?_))⟩

set_option maxHeartbeats 400000 in
theorem magMask64 (w : World) :
    Calls Tryz.prog 90 #[.agg #[.int .u64 64, .int .u64 11, .int .u64 52]] w fun e w' => e = .returned (.int .u64 9223372036854775807) ∧ ∃ x, w' = ext w x := by
  go_enter Tryz.func90, Tryz.ntmps90
  go_wp2
  go_ret
  exact ⟨rfl, Gr.of (by repeat (first | exact Gr.refl _ | refine Gr.alloc ?_ _ | refine Gr.ext ?_ _ | refine Gr.drew ?_))⟩

set_option maxHeartbeats 400000 in
theorem hiddenBit64 (w : World) :
    Calls Tryz.prog 158 #[.agg #[.int .u64 64, .int .u64 11, .int .u64 52]] w fun e w' => e = .returned (.int .u64 4503599627370496) ∧ ∃ x, w' = ext w x := by
  go_enter Tryz.func158, Tryz.ntmps158
  go_wp2
  go_ret
  exact ⟨rfl, Gr.of (by repeat (first | exact Gr.refl _ | refine Gr.alloc ?_ _ | refine Gr.ext ?_ _ | refine Gr.drew ?_))⟩

set_option maxHeartbeats 400000 in
theorem topExp64 (w : World) :
    Calls Tryz.prog 184 #[.agg #[.int .i64 64, .int .i64 11, .int .i64 52]] w fun e w' => e = .returned (.int .u64 2047) ∧ ∃ x, w' = ext w x := by
  go_enter Tryz.func184, Tryz.ntmps184
  go_wp2
  go_ret
  exact ⟨rfl, Gr.of (by repeat (first | exact Gr.refl _ | refine Gr.alloc ?_ _ | refine Gr.ext ?_ _ | refine Gr.drew ?_))⟩

set_option maxHeartbeats 400000 in
theorem quietBit64 (w : World) :
    Calls Tryz.prog 173 #[.agg #[.int .u64 64, .int .u64 11, .int .u64 52]] w fun e w' => e = .returned (.int .u64 2251799813685248) ∧ ∃ x, w' = ext w x := by
  go_enter Tryz.func173, Tryz.ntmps173
  go_wp2
  go_ret
  exact ⟨rfl, Gr.of (by repeat (first | exact Gr.refl _ | refine Gr.alloc ?_ _ | refine Gr.ext ?_ _ | refine Gr.drew ?_))⟩

set_option maxHeartbeats 400000 in
theorem expMask64 (w : World) :
    Calls Tryz.prog 85 #[.agg #[.int .u64 64, .int .u64 11, .int .u64 52]] w fun e w' => e = .returned (.int .u64 9218868437227405312) ∧ ∃ x, w' = ext w x := by
  go_enter Tryz.func85, Tryz.ntmps85
  go_wp2
  refine wp_region_ext (by kernel_rfl) (by kernel_rfl) ?_
  repeat (go_big_quiet_step ((go_at_call 183; exact Calls_ext (maxBiased64 _))))
  refine wpQuiet_nil ?_
  rintro _ ⟨x, rfl⟩
  go_wp2
  go_ret
  exact ⟨rfl, Gr.of (by repeat (first | exact Gr.refl _ | refine Gr.alloc ?_ _ | refine Gr.ext ?_ _ | refine Gr.drew ?_))⟩

end Go.Proofs.Qxb6500680aGreatDoor

