import Derived.Test.Qxb6500680aGreatDoorClass
import Derived.Test.Qxb6500680aGreatDoorBits
import Derived.Test.Qxb6500680aGreatDoorTail
namespace Go.Proofs.Qxb6500680aGreatDoor
open Go.RowKit Go.BigFrame
set_option linter.unusedSimpArgs false
attribute [local go_sem] ext_cell_if ext_frozen_if alloc_cell_if alloc_frozen_if ext_size ext_ext

set_option maxHeartbeats 400000 in
theorem signBit_any (neg : Bool) (w : World) : Calls Tryz.prog 69 #[.bool neg] w fun e w' => e = .returned (.int .i64 (if neg then 1 else 0)) ∧ ∃ x, w' = ext w x := by
  cases neg
  all_goals
    go_enter Tryz.func69, Tryz.ntmps69
    go_wp2
    go_ret
    exact ⟨rfl, Gr.of (by repeat (first | exact Gr.refl _ | refine Gr.alloc ?_ _ | refine Gr.ext ?_ _ | refine Gr.drew ?_))⟩

set_option maxHeartbeats 1000000 in
theorem of32 (w : World) : Calls Tryz.prog 19 #[.int .i64 32] w fun e w' => e = .returned (.agg #[.int .i64 32, .int .i64 8, .int .i64 23]) ∧ ∃ x, w' = ext w x := by
  go_enter Tryz.func19, Tryz.ntmps19
  go_wp2
  exact bodyPost_ret (v := .agg #[.int .i64 32, .int .i64 8, .int .i64 23]) (by simp [results, Tryz.results19, go_sem, ↓IntWalk.iteOmega]) rfl ⟨rfl, Gr.of (by repeat (first | exact Gr.refl _ | refine Gr.alloc ?_ _ | refine Gr.ext ?_ _ | refine Gr.drew ?_ | refine Gr.setCell ?_ (by simp) _))⟩

set_option maxHeartbeats 1000000 in
theorem split32 (p : Int) (neg q : Bool) (s e f : Int) (hp : Pat32 p neg q s e f) (w : World) :
    Calls Tryz.prog 67 #[.agg #[.int .u64 32, .int .u64 8, .int .u64 23], .int .u64 p] w fun r w' => r = .returned (.agg #[.bool neg, .int .u32 e, .int .u64 f]) ∧ ∃ x, w' = ext w x := by
  obtain ⟨p0, p1, -, e0, e1, f0, f1, -, sg, ex, fr, -, -, -, -, -, -, -, -, -, -, -⟩ := hp
  have e2 : e % 4294967296 = e := by omega
  go_enter Tryz.func67, Tryz.ntmps67
  go_wp2
  refine wp_region_ext_tail 18 (by kernel_rfl) (by kernel_rfl) (by kernel_rfl) ?_
  simp only [List.take_succ_cons, List.take_zero, List.drop_succ_cons, List.drop_zero]
  repeat (go_big_quiet_step ((first | (go_at_call 89; first | exact Calls_ext (signMask32 _) | exact Calls_ext2 (signMask32 _)) | (go_at_call 183; first | exact Calls_ext (maxBiased32 _) | exact Calls_ext2 (maxBiased32 _)) | (go_at_call 156; first | exact Calls_ext (fracMask32 _) | exact Calls_ext2 (fracMask32 _)))))
  refine wpQuiet_nil ?_
  rintro _ ⟨x, rfl⟩
  go_wp2
  exact bodyPost_ret (v := .agg #[.bool neg, .int .u32 e, .int .u64 f]) (by simp [results, Tryz.results67, go_sem, ↓IntWalk.iteOmega]) rfl ⟨rfl, Gr.of (by repeat (first | exact Gr.refl _ | refine Gr.alloc ?_ _ | refine Gr.ext ?_ _ | refine Gr.drew ?_ | refine Gr.setCell ?_ (by simp) _))⟩

set_option maxHeartbeats 1000000 in
theorem fields32 (p : Int) (neg q : Bool) (s e f : Int) (hp : Pat32 p neg q s e f) (w : World) :
    Calls Tryz.prog 68 #[.agg #[.int .i64 32, .int .i64 8, .int .i64 23], .int .u64 p] w fun r w' => r = .returned (.tuple #[.int .u64 s, .int .u64 e, .int .u64 f]) ∧ ∃ x, w' = ext w x := by
  obtain ⟨p0, p1, -, e0, e1, f0, f1, -, -, -, -, -, -, -, d1, d2, d3, -, -, -, -, -⟩ := hp
  go_enter Tryz.func68, Tryz.ntmps68
  go_wp2
  refine wp_region_ext (by kernel_rfl) (by kernel_rfl) ?_
  repeat (go_big_quiet_step (fail))
  refine wpQuiet_nil ?_
  rintro _ ⟨x, rfl⟩
  go_wp2
  go_ret3
  exact ⟨by simp [d1, d2, d3], Gr.of (by repeat (first | exact Gr.refl _ | refine Gr.alloc ?_ _ | refine Gr.ext ?_ _ | refine Gr.drew ?_ | refine Gr.setCell ?_ (by simp) _))⟩

set_option maxHeartbeats 1000000 in
theorem checkFields32 (p : Int) (neg q : Bool) (s e f : Int) (hp : Pat32 p neg q s e f) (w : World) :
    Calls Tryz.prog 70 #[.agg #[.int .u64 32, .int .u64 8, .int .u64 23], .agg #[.bool neg, .int .u32 e, .int .u64 f]] w fun r w' => r = .returned .nilIface ∧ ∃ x, w' = ext w x := by
  obtain ⟨p0, p1, -, e0, e1, f0, f1, -, -, -, -, -, -, -, -, -, -, -, -, -, -, -⟩ := hp
  have t1 : decide (255 < e) = false := by simp; omega
  have t2 : decide (8388607 < f) = false := by simp; omega
  go_enter Tryz.func70, Tryz.ntmps70
  go_wp2
  refine wp_region_ext (by kernel_rfl) (by kernel_rfl) ?_
  repeat (go_big_quiet_step ((first | (go_at_call 183; first | exact Calls_ext (maxBiased32 _) | exact Calls_ext2 (maxBiased32 _)) | (go_at_call 156; first | exact Calls_ext (fracMask32 _) | exact Calls_ext2 (fracMask32 _)))))
  refine wpQuiet_nil ?_
  rintro _ ⟨x, rfl⟩
  go_wp2
  refine wp_region_ext (by kernel_rfl) (by kernel_rfl) ?_
  repeat (go_big_quiet_step ((first | (go_at_call 183; first | exact Calls_ext (maxBiased32 _) | exact Calls_ext2 (maxBiased32 _)) | (go_at_call 156; first | exact Calls_ext (fracMask32 _) | exact Calls_ext2 (fracMask32 _)))))
  refine wpQuiet_nil ?_
  rintro _ ⟨x, rfl⟩
  go_wp2
  go_ret
  exact ⟨rfl, Gr.of (by repeat (first | exact Gr.refl _ | refine Gr.alloc ?_ _ | refine Gr.ext ?_ _ | refine Gr.drew ?_ | refine Gr.setCell ?_ (by simp) _))⟩

set_option maxHeartbeats 1000000 in
theorem withSign32 (m r : Int) (neg : Bool) (h1 : neg = true → bits .or .u64 m 2147483648 = r) (h2 : neg = false → m = r) (w : World) :
    Calls Tryz.prog 88 #[.agg #[.int .u64 32, .int .u64 8, .int .u64 23], .int .u64 m, .bool neg] w fun e w' => e = .returned (.int .u64 r) ∧ ∃ x, w' = ext w x := by
  cases neg
  · obtain rfl := h2 rfl
    clear h1 h2
    go_enter Tryz.func88, Tryz.ntmps88
    go_wp2
    go_ret
    exact ⟨rfl, Gr.of (by repeat (first | exact Gr.refl _ | refine Gr.alloc ?_ _ | refine Gr.ext ?_ _ | refine Gr.drew ?_ | refine Gr.setCell ?_ (by simp) _))⟩
  · have h3 := h1 rfl
    clear h1 h2
    go_enter Tryz.func88, Tryz.ntmps88
    go_wp2
    go_ret
    exact ⟨rfl, Gr.of (by repeat (first | exact Gr.refl _ | refine Gr.alloc ?_ _ | refine Gr.ext ?_ _ | refine Gr.drew ?_ | refine Gr.setCell ?_ (by simp) _))⟩

set_option maxHeartbeats 1000000 in
theorem join32 (p : Int) (neg q : Bool) (s e f : Int) (hp : Pat32 p neg q s e f) (w : World) :
    Calls Tryz.prog 71 #[.agg #[.int .u64 32, .int .u64 8, .int .u64 23], .agg #[.bool neg, .int .u32 e, .int .u64 f]] w fun r w' => r = .returned (.int .u64 p) ∧ ∃ x, w' = ext w x := by
  obtain ⟨p0, p1, -, e0, e1, f0, f1, -, -, -, -, -, -, -, -, -, -, ee, ff, jn, js, jp⟩ := hp
  have js' := Hid.out (p := True) trivial
  have J1 : Hid (neg = true → bits .or .u64 (e * 8388608 + f) 2147483648 = p) := js
  have J2 : Hid (neg = false → e * 8388608 + f = p) := jp
  clear js jp js'
  go_enter Tryz.func71, Tryz.ntmps71
  go_wp2
  refine wp_region_ext (by kernel_rfl) (by kernel_rfl) ?_
  repeat (go_big_quiet_step ((first | (go_at_call 183; first | exact Calls_ext (maxBiased32 _) | exact Calls_ext2 (maxBiased32 _)) | (go_at_call 156; first | exact Calls_ext (fracMask32 _) | exact Calls_ext2 (fracMask32 _)))))
  refine wpQuiet_nil ?_
  rintro _ ⟨x, rfl⟩
  go_wp2_with (go_at_call 88; refine (withSign32 _ p neg J1.out J2.out _).mono ?_; rintro r w' ⟨rfl, x, rfl⟩)
  go_ret
  exact ⟨rfl, Gr.of (by repeat (first | exact Gr.refl _ | refine Gr.alloc ?_ _ | refine Gr.ext ?_ _ | refine Gr.drew ?_ | refine Gr.setCell ?_ (by simp) _))⟩

set_option maxHeartbeats 1000000 in
theorem of64 (w : World) : Calls Tryz.prog 19 #[.int .i64 64] w fun e w' => e = .returned (.agg #[.int .i64 64, .int .i64 11, .int .i64 52]) ∧ ∃ x, w' = ext w x := by
  go_enter Tryz.func19, Tryz.ntmps19
  go_wp2
  exact bodyPost_ret (v := .agg #[.int .i64 64, .int .i64 11, .int .i64 52]) (by simp [results, Tryz.results19, go_sem, ↓IntWalk.iteOmega]) rfl ⟨rfl, Gr.of (by repeat (first | exact Gr.refl _ | refine Gr.alloc ?_ _ | refine Gr.ext ?_ _ | refine Gr.drew ?_ | refine Gr.setCell ?_ (by simp) _))⟩

set_option maxHeartbeats 1000000 in
theorem split64 (p : Int) (neg q : Bool) (s e f : Int) (hp : Pat64 p neg q s e f) (w : World) :
    Calls Tryz.prog 67 #[.agg #[.int .u64 64, .int .u64 11, .int .u64 52], .int .u64 p] w fun r w' => r = .returned (.agg #[.bool neg, .int .u32 e, .int .u64 f]) ∧ ∃ x, w' = ext w x := by
  obtain ⟨p0, p1, -, e0, e1, f0, f1, -, sg, ex, fr, -, -, -, -, -, -, -, -, -, -, -⟩ := hp
  have e2 : e % 4294967296 = e := by omega
  go_enter Tryz.func67, Tryz.ntmps67
  go_wp2
  refine wp_region_ext_tail 18 (by kernel_rfl) (by kernel_rfl) (by kernel_rfl) ?_
  simp only [List.take_succ_cons, List.take_zero, List.drop_succ_cons, List.drop_zero]
  repeat (go_big_quiet_step ((first | (go_at_call 89; first | exact Calls_ext (signMask64 _) | exact Calls_ext2 (signMask64 _)) | (go_at_call 183; first | exact Calls_ext (maxBiased64 _) | exact Calls_ext2 (maxBiased64 _)) | (go_at_call 156; first | exact Calls_ext (fracMask64 _) | exact Calls_ext2 (fracMask64 _)))))
  refine wpQuiet_nil ?_
  rintro _ ⟨x, rfl⟩
  go_wp2
  exact bodyPost_ret (v := .agg #[.bool neg, .int .u32 e, .int .u64 f]) (by simp [results, Tryz.results67, go_sem, ↓IntWalk.iteOmega]) rfl ⟨rfl, Gr.of (by repeat (first | exact Gr.refl _ | refine Gr.alloc ?_ _ | refine Gr.ext ?_ _ | refine Gr.drew ?_ | refine Gr.setCell ?_ (by simp) _))⟩

set_option maxHeartbeats 1000000 in
theorem fields64 (p : Int) (neg q : Bool) (s e f : Int) (hp : Pat64 p neg q s e f) (w : World) :
    Calls Tryz.prog 68 #[.agg #[.int .i64 64, .int .i64 11, .int .i64 52], .int .u64 p] w fun r w' => r = .returned (.tuple #[.int .u64 s, .int .u64 e, .int .u64 f]) ∧ ∃ x, w' = ext w x := by
  obtain ⟨p0, p1, -, e0, e1, f0, f1, -, -, -, -, -, -, -, d1, d2, d3, -, -, -, -, -⟩ := hp
  go_enter Tryz.func68, Tryz.ntmps68
  go_wp2
  refine wp_region_ext (by kernel_rfl) (by kernel_rfl) ?_
  repeat (go_big_quiet_step (fail))
  refine wpQuiet_nil ?_
  rintro _ ⟨x, rfl⟩
  go_wp2
  go_ret3
  exact ⟨by simp [d1, d2, d3], Gr.of (by repeat (first | exact Gr.refl _ | refine Gr.alloc ?_ _ | refine Gr.ext ?_ _ | refine Gr.drew ?_ | refine Gr.setCell ?_ (by simp) _))⟩

set_option maxHeartbeats 1000000 in
theorem checkFields64 (p : Int) (neg q : Bool) (s e f : Int) (hp : Pat64 p neg q s e f) (w : World) :
    Calls Tryz.prog 70 #[.agg #[.int .u64 64, .int .u64 11, .int .u64 52], .agg #[.bool neg, .int .u32 e, .int .u64 f]] w fun r w' => r = .returned .nilIface ∧ ∃ x, w' = ext w x := by
  obtain ⟨p0, p1, -, e0, e1, f0, f1, -, -, -, -, -, -, -, -, -, -, -, -, -, -, -⟩ := hp
  have t1 : decide (2047 < e) = false := by simp; omega
  have t2 : decide (4503599627370495 < f) = false := by simp; omega
  go_enter Tryz.func70, Tryz.ntmps70
  go_wp2
  refine wp_region_ext (by kernel_rfl) (by kernel_rfl) ?_
  repeat (go_big_quiet_step ((first | (go_at_call 183; first | exact Calls_ext (maxBiased64 _) | exact Calls_ext2 (maxBiased64 _)) | (go_at_call 156; first | exact Calls_ext (fracMask64 _) | exact Calls_ext2 (fracMask64 _)))))
  refine wpQuiet_nil ?_
  rintro _ ⟨x, rfl⟩
  go_wp2
  refine wp_region_ext (by kernel_rfl) (by kernel_rfl) ?_
  repeat (go_big_quiet_step ((first | (go_at_call 183; first | exact Calls_ext (maxBiased64 _) | exact Calls_ext2 (maxBiased64 _)) | (go_at_call 156; first | exact Calls_ext (fracMask64 _) | exact Calls_ext2 (fracMask64 _)))))
  refine wpQuiet_nil ?_
  rintro _ ⟨x, rfl⟩
  go_wp2
  go_ret
  exact ⟨rfl, Gr.of (by repeat (first | exact Gr.refl _ | refine Gr.alloc ?_ _ | refine Gr.ext ?_ _ | refine Gr.drew ?_ | refine Gr.setCell ?_ (by simp) _))⟩

set_option maxHeartbeats 1000000 in
theorem withSign64 (m r : Int) (neg : Bool) (h1 : neg = true → bits .or .u64 m 9223372036854775808 = r) (h2 : neg = false → m = r) (w : World) :
    Calls Tryz.prog 88 #[.agg #[.int .u64 64, .int .u64 11, .int .u64 52], .int .u64 m, .bool neg] w fun e w' => e = .returned (.int .u64 r) ∧ ∃ x, w' = ext w x := by
  cases neg
  · obtain rfl := h2 rfl
    clear h1 h2
    go_enter Tryz.func88, Tryz.ntmps88
    go_wp2
    go_ret
    exact ⟨rfl, Gr.of (by repeat (first | exact Gr.refl _ | refine Gr.alloc ?_ _ | refine Gr.ext ?_ _ | refine Gr.drew ?_ | refine Gr.setCell ?_ (by simp) _))⟩
  · have h3 := h1 rfl
    clear h1 h2
    go_enter Tryz.func88, Tryz.ntmps88
    go_wp2
    go_ret
    exact ⟨rfl, Gr.of (by repeat (first | exact Gr.refl _ | refine Gr.alloc ?_ _ | refine Gr.ext ?_ _ | refine Gr.drew ?_ | refine Gr.setCell ?_ (by simp) _))⟩

set_option maxHeartbeats 1000000 in
theorem join64 (p : Int) (neg q : Bool) (s e f : Int) (hp : Pat64 p neg q s e f) (w : World) :
    Calls Tryz.prog 71 #[.agg #[.int .u64 64, .int .u64 11, .int .u64 52], .agg #[.bool neg, .int .u32 e, .int .u64 f]] w fun r w' => r = .returned (.int .u64 p) ∧ ∃ x, w' = ext w x := by
  obtain ⟨p0, p1, -, e0, e1, f0, f1, -, -, -, -, -, -, -, -, -, -, ee, ff, jn, js, jp⟩ := hp
  have js' := Hid.out (p := True) trivial
  have J1 : Hid (neg = true → bits .or .u64 (e * 4503599627370496 + f) 9223372036854775808 = p) := js
  have J2 : Hid (neg = false → e * 4503599627370496 + f = p) := jp
  clear js jp js'
  go_enter Tryz.func71, Tryz.ntmps71
  go_wp2
  refine wp_region_ext (by kernel_rfl) (by kernel_rfl) ?_
  repeat (go_big_quiet_step ((first | (go_at_call 183; first | exact Calls_ext (maxBiased64 _) | exact Calls_ext2 (maxBiased64 _)) | (go_at_call 156; first | exact Calls_ext (fracMask64 _) | exact Calls_ext2 (fracMask64 _)))))
  refine wpQuiet_nil ?_
  rintro _ ⟨x, rfl⟩
  go_wp2_with (go_at_call 88; refine (withSign64 _ p neg J1.out J2.out _).mono ?_; rintro r w' ⟨rfl, x, rfl⟩)
  go_ret
  exact ⟨rfl, Gr.of (by repeat (first | exact Gr.refl _ | refine Gr.alloc ?_ _ | refine Gr.ext ?_ _ | refine Gr.drew ?_ | refine Gr.setCell ?_ (by simp) _))⟩

end Go.Proofs.Qxb6500680aGreatDoor

