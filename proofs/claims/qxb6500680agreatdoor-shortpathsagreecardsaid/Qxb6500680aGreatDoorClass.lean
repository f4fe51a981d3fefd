import Derived.Test.Qxb6500680aGreatDoorLeaf
namespace Go.Proofs.Qxb6500680aGreatDoor
open Go.RowKit Go.BigFrame
attribute [local go_sem] ext_cell_if ext_frozen_if alloc_cell_if alloc_frozen_if ext_size ext_ext

/-- The kind c of a magnitude m: 0 zero, 1 denormal, 2 normal, 3 infinite, 4 none of these. -/
def Cls (HB EM m c : Int) : Prop := (c = 0 ∧ m = 0) ∨ (c = 1 ∧ 0 < m ∧ m < HB) ∨ (c = 2 ∧ HB ≤ m ∧ m < EM) ∨ (c = 3 ∧ m = EM) ∨ (c = 4 ∧ EM < m)

set_option maxHeartbeats 1000000 in
theorem classify32 (p m c : Int) (hm : bits .and .u64 p 2147483647 = m) (hc : Cls 8388608 2139095040 m c) (w : World) :
    Calls Tryz.prog 72 #[.agg #[.int .u64 32, .int .u64 8, .int .u64 23], .int .u64 p] w fun e w' => e = .returned (.int .u8 c) ∧ ∃ x, w' = ext w x := by
  rcases hc with ⟨rfl, rfl⟩ | ⟨rfl, h1, h2⟩ | ⟨rfl, h1, h2⟩ | ⟨rfl, rfl⟩ | ⟨rfl, h1⟩
  case inr.inl => 
    have t0 : (m == 0) = false := by simp; omega
    have t1 : (m != 0) = true := by simp; omega
    have t4 : (m == 2139095040) = false := by simp; omega
    have t5 : m < 2139095040 := by omega
    have t6 : decide (8388608 ≤ m) = false := by simp; omega
    have t7 : decide (2139095040 < m) = false := by simp; omega
    clear h1
    go_enter Tryz.func72, Tryz.ntmps72
    go_wp2_with (first | (go_at_call 90; refine (magMask32 _).mono ?_; rintro e w' ⟨rfl, x, rfl⟩) | (go_at_call 158; refine (hiddenBit32 _).mono ?_; rintro e w' ⟨rfl, x, rfl⟩) | (go_at_call 85; refine (expMask32 _).mono ?_; rintro e w' ⟨rfl, x, rfl⟩))
    go_ret
    exact ⟨rfl, Gr.of (by repeat (first | exact Gr.refl _ | refine Gr.alloc ?_ _ | refine Gr.ext ?_ _ | refine Gr.drew ?_))⟩
  case inr.inr.inl => 
    have t0 : (m == 0) = false := by simp; omega
    have t1 : (m != 0) = true := by simp; omega
    have t4 : (m == 2139095040) = false := by simp; omega
    have t5 : decide (m < 8388608) = false := by simp; omega
    have t7 : decide (2139095040 < m) = false := by simp; omega
    go_enter Tryz.func72, Tryz.ntmps72
    go_wp2_with (first | (go_at_call 90; refine (magMask32 _).mono ?_; rintro e w' ⟨rfl, x, rfl⟩) | (go_at_call 158; refine (hiddenBit32 _).mono ?_; rintro e w' ⟨rfl, x, rfl⟩) | (go_at_call 85; refine (expMask32 _).mono ?_; rintro e w' ⟨rfl, x, rfl⟩))
    go_ret
    exact ⟨rfl, Gr.of (by repeat (first | exact Gr.refl _ | refine Gr.alloc ?_ _ | refine Gr.ext ?_ _ | refine Gr.drew ?_))⟩
  case inr.inr.inr.inr => 
    have t0 : (m == 0) = false := by simp; omega
    have t1 : (m != 0) = true := by simp; omega
    have t4 : (m == 2139095040) = false := by simp; omega
    have t5 : decide (m < 2139095040) = false := by simp; omega
    have t6 : decide (m < 8388608) = false := by simp; omega
    have t7 : 8388608 ≤ m := by omega
    go_enter Tryz.func72, Tryz.ntmps72
    go_wp2_with (first | (go_at_call 90; refine (magMask32 _).mono ?_; rintro e w' ⟨rfl, x, rfl⟩) | (go_at_call 158; refine (hiddenBit32 _).mono ?_; rintro e w' ⟨rfl, x, rfl⟩) | (go_at_call 85; refine (expMask32 _).mono ?_; rintro e w' ⟨rfl, x, rfl⟩))
    go_ret
    exact ⟨rfl, Gr.of (by repeat (first | exact Gr.refl _ | refine Gr.alloc ?_ _ | refine Gr.ext ?_ _ | refine Gr.drew ?_))⟩
  all_goals
    go_enter Tryz.func72, Tryz.ntmps72
    go_wp2_with (first | (go_at_call 90; refine (magMask32 _).mono ?_; rintro e w' ⟨rfl, x, rfl⟩) | (go_at_call 158; refine (hiddenBit32 _).mono ?_; rintro e w' ⟨rfl, x, rfl⟩) | (go_at_call 85; refine (expMask32 _).mono ?_; rintro e w' ⟨rfl, x, rfl⟩))
    go_ret
    exact ⟨rfl, Gr.of (by repeat (first | exact Gr.refl _ | refine Gr.alloc ?_ _ | refine Gr.ext ?_ _ | refine Gr.drew ?_))⟩

set_option maxHeartbeats 1000000 in
theorem isZero32 (p m c : Int) (hm : bits .and .u64 p 2147483647 = m) (hc : Cls 8388608 2139095040 m c) (w : World) :
    Calls Tryz.prog 74 #[.agg #[.int .u64 32, .int .u64 8, .int .u64 23], .int .u64 p] w fun e w' => e = .returned (.bool (decide (c = 0))) ∧ ∃ x, w' = ext w x := by
  rcases hc with ⟨rfl, rfl⟩ | ⟨rfl, h1, h2⟩ | ⟨rfl, h1, h2⟩ | ⟨rfl, rfl⟩ | ⟨rfl, h1⟩
  case inr.inl => 
    have t0 : (m == 0) = false := by simp; omega
    have t1 : (m != 0) = true := by simp; omega
    have t4 : (m == 2139095040) = false := by simp; omega
    have t5 : m < 2139095040 := by omega
    have t6 : decide (8388608 ≤ m) = false := by simp; omega
    have t7 : decide (2139095040 < m) = false := by simp; omega
    clear h1
    go_enter Tryz.func74, Tryz.ntmps74
    go_wp2_with (first | (go_at_call 90; refine (magMask32 _).mono ?_; rintro e w' ⟨rfl, x, rfl⟩) | (go_at_call 158; refine (hiddenBit32 _).mono ?_; rintro e w' ⟨rfl, x, rfl⟩) | (go_at_call 85; refine (expMask32 _).mono ?_; rintro e w' ⟨rfl, x, rfl⟩))
    go_ret
    exact ⟨rfl, Gr.of (by repeat (first | exact Gr.refl _ | refine Gr.alloc ?_ _ | refine Gr.ext ?_ _ | refine Gr.drew ?_))⟩
  case inr.inr.inl => 
    have t0 : (m == 0) = false := by simp; omega
    have t1 : (m != 0) = true := by simp; omega
    have t4 : (m == 2139095040) = false := by simp; omega
    have t5 : decide (m < 8388608) = false := by simp; omega
    have t7 : decide (2139095040 < m) = false := by simp; omega
    go_enter Tryz.func74, Tryz.ntmps74
    go_wp2_with (first | (go_at_call 90; refine (magMask32 _).mono ?_; rintro e w' ⟨rfl, x, rfl⟩) | (go_at_call 158; refine (hiddenBit32 _).mono ?_; rintro e w' ⟨rfl, x, rfl⟩) | (go_at_call 85; refine (expMask32 _).mono ?_; rintro e w' ⟨rfl, x, rfl⟩))
    go_ret
    exact ⟨rfl, Gr.of (by repeat (first | exact Gr.refl _ | refine Gr.alloc ?_ _ | refine Gr.ext ?_ _ | refine Gr.drew ?_))⟩
  case inr.inr.inr.inr => 
    have t0 : (m == 0) = false := by simp; omega
    have t1 : (m != 0) = true := by simp; omega
    have t4 : (m == 2139095040) = false := by simp; omega
    have t5 : decide (m < 2139095040) = false := by simp; omega
    have t6 : decide (m < 8388608) = false := by simp; omega
    have t7 : 8388608 ≤ m := by omega
    go_enter Tryz.func74, Tryz.ntmps74
    go_wp2_with (first | (go_at_call 90; refine (magMask32 _).mono ?_; rintro e w' ⟨rfl, x, rfl⟩) | (go_at_call 158; refine (hiddenBit32 _).mono ?_; rintro e w' ⟨rfl, x, rfl⟩) | (go_at_call 85; refine (expMask32 _).mono ?_; rintro e w' ⟨rfl, x, rfl⟩))
    go_ret
    exact ⟨rfl, Gr.of (by repeat (first | exact Gr.refl _ | refine Gr.alloc ?_ _ | refine Gr.ext ?_ _ | refine Gr.drew ?_))⟩
  all_goals
    go_enter Tryz.func74, Tryz.ntmps74
    go_wp2_with (first | (go_at_call 90; refine (magMask32 _).mono ?_; rintro e w' ⟨rfl, x, rfl⟩) | (go_at_call 158; refine (hiddenBit32 _).mono ?_; rintro e w' ⟨rfl, x, rfl⟩) | (go_at_call 85; refine (expMask32 _).mono ?_; rintro e w' ⟨rfl, x, rfl⟩))
    go_ret
    exact ⟨rfl, Gr.of (by repeat (first | exact Gr.refl _ | refine Gr.alloc ?_ _ | refine Gr.ext ?_ _ | refine Gr.drew ?_))⟩

set_option maxHeartbeats 1000000 in
theorem isDenormal32 (p m c : Int) (hm : bits .and .u64 p 2147483647 = m) (hc : Cls 8388608 2139095040 m c) (w : World) :
    Calls Tryz.prog 75 #[.agg #[.int .u64 32, .int .u64 8, .int .u64 23], .int .u64 p] w fun e w' => e = .returned (.bool (decide (c = 1))) ∧ ∃ x, w' = ext w x := by
  rcases hc with ⟨rfl, rfl⟩ | ⟨rfl, h1, h2⟩ | ⟨rfl, h1, h2⟩ | ⟨rfl, rfl⟩ | ⟨rfl, h1⟩
  case inr.inl => 
    have t0 : (m == 0) = false := by simp; omega
    have t1 : (m != 0) = true := by simp; omega
    have t4 : (m == 2139095040) = false := by simp; omega
    have t5 : m < 2139095040 := by omega
    have t6 : decide (8388608 ≤ m) = false := by simp; omega
    have t7 : decide (2139095040 < m) = false := by simp; omega
    clear h1
    go_enter Tryz.func75, Tryz.ntmps75
    go_wp2_with (first | (go_at_call 90; refine (magMask32 _).mono ?_; rintro e w' ⟨rfl, x, rfl⟩) | (go_at_call 158; refine (hiddenBit32 _).mono ?_; rintro e w' ⟨rfl, x, rfl⟩) | (go_at_call 85; refine (expMask32 _).mono ?_; rintro e w' ⟨rfl, x, rfl⟩))
    go_ret
    exact ⟨rfl, Gr.of (by repeat (first | exact Gr.refl _ | refine Gr.alloc ?_ _ | refine Gr.ext ?_ _ | refine Gr.drew ?_))⟩
  case inr.inr.inl => 
    have t0 : (m == 0) = false := by simp; omega
    have t1 : (m != 0) = true := by simp; omega
    have t4 : (m == 2139095040) = false := by simp; omega
    have t5 : decide (m < 8388608) = false := by simp; omega
    have t7 : decide (2139095040 < m) = false := by simp; omega
    go_enter Tryz.func75, Tryz.ntmps75
    go_wp2_with (first | (go_at_call 90; refine (magMask32 _).mono ?_; rintro e w' ⟨rfl, x, rfl⟩) | (go_at_call 158; refine (hiddenBit32 _).mono ?_; rintro e w' ⟨rfl, x, rfl⟩) | (go_at_call 85; refine (expMask32 _).mono ?_; rintro e w' ⟨rfl, x, rfl⟩))
    go_ret
    exact ⟨rfl, Gr.of (by repeat (first | exact Gr.refl _ | refine Gr.alloc ?_ _ | refine Gr.ext ?_ _ | refine Gr.drew ?_))⟩
  case inr.inr.inr.inr => 
    have t0 : (m == 0) = false := by simp; omega
    have t1 : (m != 0) = true := by simp; omega
    have t4 : (m == 2139095040) = false := by simp; omega
    have t5 : decide (m < 2139095040) = false := by simp; omega
    have t6 : decide (m < 8388608) = false := by simp; omega
    have t7 : 8388608 ≤ m := by omega
    go_enter Tryz.func75, Tryz.ntmps75
    go_wp2_with (first | (go_at_call 90; refine (magMask32 _).mono ?_; rintro e w' ⟨rfl, x, rfl⟩) | (go_at_call 158; refine (hiddenBit32 _).mono ?_; rintro e w' ⟨rfl, x, rfl⟩) | (go_at_call 85; refine (expMask32 _).mono ?_; rintro e w' ⟨rfl, x, rfl⟩))
    go_ret
    exact ⟨rfl, Gr.of (by repeat (first | exact Gr.refl _ | refine Gr.alloc ?_ _ | refine Gr.ext ?_ _ | refine Gr.drew ?_))⟩
  all_goals
    go_enter Tryz.func75, Tryz.ntmps75
    go_wp2_with (first | (go_at_call 90; refine (magMask32 _).mono ?_; rintro e w' ⟨rfl, x, rfl⟩) | (go_at_call 158; refine (hiddenBit32 _).mono ?_; rintro e w' ⟨rfl, x, rfl⟩) | (go_at_call 85; refine (expMask32 _).mono ?_; rintro e w' ⟨rfl, x, rfl⟩))
    go_ret
    exact ⟨rfl, Gr.of (by repeat (first | exact Gr.refl _ | refine Gr.alloc ?_ _ | refine Gr.ext ?_ _ | refine Gr.drew ?_))⟩

set_option maxHeartbeats 1000000 in
theorem isNormal32 (p m c : Int) (hm : bits .and .u64 p 2147483647 = m) (hc : Cls 8388608 2139095040 m c) (w : World) :
    Calls Tryz.prog 76 #[.agg #[.int .u64 32, .int .u64 8, .int .u64 23], .int .u64 p] w fun e w' => e = .returned (.bool (decide (c = 2))) ∧ ∃ x, w' = ext w x := by
  rcases hc with ⟨rfl, rfl⟩ | ⟨rfl, h1, h2⟩ | ⟨rfl, h1, h2⟩ | ⟨rfl, rfl⟩ | ⟨rfl, h1⟩
  case inr.inl => 
    have t0 : (m == 0) = false := by simp; omega
    have t1 : (m != 0) = true := by simp; omega
    have t4 : (m == 2139095040) = false := by simp; omega
    have t5 : m < 2139095040 := by omega
    have t6 : decide (8388608 ≤ m) = false := by simp; omega
    have t7 : decide (2139095040 < m) = false := by simp; omega
    clear h1
    go_enter Tryz.func76, Tryz.ntmps76
    go_wp2_with (first | (go_at_call 90; refine (magMask32 _).mono ?_; rintro e w' ⟨rfl, x, rfl⟩) | (go_at_call 158; refine (hiddenBit32 _).mono ?_; rintro e w' ⟨rfl, x, rfl⟩) | (go_at_call 85; refine (expMask32 _).mono ?_; rintro e w' ⟨rfl, x, rfl⟩))
    go_ret
    exact ⟨rfl, Gr.of (by repeat (first | exact Gr.refl _ | refine Gr.alloc ?_ _ | refine Gr.ext ?_ _ | refine Gr.drew ?_))⟩
  case inr.inr.inl => 
    have t0 : (m == 0) = false := by simp; omega
    have t1 : (m != 0) = true := by simp; omega
    have t4 : (m == 2139095040) = false := by simp; omega
    have t5 : decide (m < 8388608) = false := by simp; omega
    have t7 : decide (2139095040 < m) = false := by simp; omega
    go_enter Tryz.func76, Tryz.ntmps76
    go_wp2_with (first | (go_at_call 90; refine (magMask32 _).mono ?_; rintro e w' ⟨rfl, x, rfl⟩) | (go_at_call 158; refine (hiddenBit32 _).mono ?_; rintro e w' ⟨rfl, x, rfl⟩) | (go_at_call 85; refine (expMask32 _).mono ?_; rintro e w' ⟨rfl, x, rfl⟩))
    go_ret
    exact ⟨rfl, Gr.of (by repeat (first | exact Gr.refl _ | refine Gr.alloc ?_ _ | refine Gr.ext ?_ _ | refine Gr.drew ?_))⟩
  case inr.inr.inr.inr => 
    have t0 : (m == 0) = false := by simp; omega
    have t1 : (m != 0) = true := by simp; omega
    have t4 : (m == 2139095040) = false := by simp; omega
    have t5 : decide (m < 2139095040) = false := by simp; omega
    have t6 : decide (m < 8388608) = false := by simp; omega
    have t7 : 8388608 ≤ m := by omega
    go_enter Tryz.func76, Tryz.ntmps76
    go_wp2_with (first | (go_at_call 90; refine (magMask32 _).mono ?_; rintro e w' ⟨rfl, x, rfl⟩) | (go_at_call 158; refine (hiddenBit32 _).mono ?_; rintro e w' ⟨rfl, x, rfl⟩) | (go_at_call 85; refine (expMask32 _).mono ?_; rintro e w' ⟨rfl, x, rfl⟩))
    go_ret
    exact ⟨rfl, Gr.of (by repeat (first | exact Gr.refl _ | refine Gr.alloc ?_ _ | refine Gr.ext ?_ _ | refine Gr.drew ?_))⟩
  all_goals
    go_enter Tryz.func76, Tryz.ntmps76
    go_wp2_with (first | (go_at_call 90; refine (magMask32 _).mono ?_; rintro e w' ⟨rfl, x, rfl⟩) | (go_at_call 158; refine (hiddenBit32 _).mono ?_; rintro e w' ⟨rfl, x, rfl⟩) | (go_at_call 85; refine (expMask32 _).mono ?_; rintro e w' ⟨rfl, x, rfl⟩))
    go_ret
    exact ⟨rfl, Gr.of (by repeat (first | exact Gr.refl _ | refine Gr.alloc ?_ _ | refine Gr.ext ?_ _ | refine Gr.drew ?_))⟩

set_option maxHeartbeats 1000000 in
theorem isInf32 (p m c : Int) (hm : bits .and .u64 p 2147483647 = m) (hc : Cls 8388608 2139095040 m c) (w : World) :
    Calls Tryz.prog 77 #[.agg #[.int .u64 32, .int .u64 8, .int .u64 23], .int .u64 p] w fun e w' => e = .returned (.bool (decide (c = 3))) ∧ ∃ x, w' = ext w x := by
  rcases hc with ⟨rfl, rfl⟩ | ⟨rfl, h1, h2⟩ | ⟨rfl, h1, h2⟩ | ⟨rfl, rfl⟩ | ⟨rfl, h1⟩
  case inr.inl => 
    have t0 : (m == 0) = false := by simp; omega
    have t1 : (m != 0) = true := by simp; omega
    have t4 : (m == 2139095040) = false := by simp; omega
    have t5 : m < 2139095040 := by omega
    have t6 : decide (8388608 ≤ m) = false := by simp; omega
    have t7 : decide (2139095040 < m) = false := by simp; omega
    clear h1
    go_enter Tryz.func77, Tryz.ntmps77
    go_wp2_with (first | (go_at_call 90; refine (magMask32 _).mono ?_; rintro e w' ⟨rfl, x, rfl⟩) | (go_at_call 158; refine (hiddenBit32 _).mono ?_; rintro e w' ⟨rfl, x, rfl⟩) | (go_at_call 85; refine (expMask32 _).mono ?_; rintro e w' ⟨rfl, x, rfl⟩))
    refine wp_region_ext (by kernel_rfl) (by kernel_rfl) ?_
    repeat (go_big_quiet_step ((first | (go_at_call 90; exact Calls_ext (magMask32 _)) | (go_at_call 85; exact Calls_ext (expMask32 _)))))
    refine wpQuiet_nil ?_
    rintro _ ⟨x, rfl⟩
    go_wp2
    go_ret
    exact ⟨rfl, Gr.of (by repeat (first | exact Gr.refl _ | refine Gr.alloc ?_ _ | refine Gr.ext ?_ _ | refine Gr.drew ?_))⟩
  case inr.inr.inl => 
    have t0 : (m == 0) = false := by simp; omega
    have t1 : (m != 0) = true := by simp; omega
    have t4 : (m == 2139095040) = false := by simp; omega
    have t5 : decide (m < 8388608) = false := by simp; omega
    have t7 : decide (2139095040 < m) = false := by simp; omega
    go_enter Tryz.func77, Tryz.ntmps77
    go_wp2_with (first | (go_at_call 90; refine (magMask32 _).mono ?_; rintro e w' ⟨rfl, x, rfl⟩) | (go_at_call 158; refine (hiddenBit32 _).mono ?_; rintro e w' ⟨rfl, x, rfl⟩) | (go_at_call 85; refine (expMask32 _).mono ?_; rintro e w' ⟨rfl, x, rfl⟩))
    refine wp_region_ext (by kernel_rfl) (by kernel_rfl) ?_
    repeat (go_big_quiet_step ((first | (go_at_call 90; exact Calls_ext (magMask32 _)) | (go_at_call 85; exact Calls_ext (expMask32 _)))))
    refine wpQuiet_nil ?_
    rintro _ ⟨x, rfl⟩
    go_wp2
    go_ret
    exact ⟨rfl, Gr.of (by repeat (first | exact Gr.refl _ | refine Gr.alloc ?_ _ | refine Gr.ext ?_ _ | refine Gr.drew ?_))⟩
  case inr.inr.inr.inr => 
    have t0 : (m == 0) = false := by simp; omega
    have t1 : (m != 0) = true := by simp; omega
    have t4 : (m == 2139095040) = false := by simp; omega
    have t5 : decide (m < 2139095040) = false := by simp; omega
    have t6 : decide (m < 8388608) = false := by simp; omega
    have t7 : 8388608 ≤ m := by omega
    go_enter Tryz.func77, Tryz.ntmps77
    go_wp2_with (first | (go_at_call 90; refine (magMask32 _).mono ?_; rintro e w' ⟨rfl, x, rfl⟩) | (go_at_call 158; refine (hiddenBit32 _).mono ?_; rintro e w' ⟨rfl, x, rfl⟩) | (go_at_call 85; refine (expMask32 _).mono ?_; rintro e w' ⟨rfl, x, rfl⟩))
    refine wp_region_ext (by kernel_rfl) (by kernel_rfl) ?_
    repeat (go_big_quiet_step ((first | (go_at_call 90; exact Calls_ext (magMask32 _)) | (go_at_call 85; exact Calls_ext (expMask32 _)))))
    refine wpQuiet_nil ?_
    rintro _ ⟨x, rfl⟩
    go_wp2
    go_ret
    exact ⟨rfl, Gr.of (by repeat (first | exact Gr.refl _ | refine Gr.alloc ?_ _ | refine Gr.ext ?_ _ | refine Gr.drew ?_))⟩
  all_goals
    go_enter Tryz.func77, Tryz.ntmps77
    go_wp2_with (first | (go_at_call 90; refine (magMask32 _).mono ?_; rintro e w' ⟨rfl, x, rfl⟩) | (go_at_call 158; refine (hiddenBit32 _).mono ?_; rintro e w' ⟨rfl, x, rfl⟩) | (go_at_call 85; refine (expMask32 _).mono ?_; rintro e w' ⟨rfl, x, rfl⟩))
    refine wp_region_ext (by kernel_rfl) (by kernel_rfl) ?_
    repeat (go_big_quiet_step ((first | (go_at_call 90; exact Calls_ext (magMask32 _)) | (go_at_call 85; exact Calls_ext (expMask32 _)))))
    refine wpQuiet_nil ?_
    rintro _ ⟨x, rfl⟩
    go_wp2
    go_ret
    exact ⟨rfl, Gr.of (by repeat (first | exact Gr.refl _ | refine Gr.alloc ?_ _ | refine Gr.ext ?_ _ | refine Gr.drew ?_))⟩

set_option maxHeartbeats 1000000 in
theorem isNaN32 (p m c : Int) (hm : bits .and .u64 p 2147483647 = m) (hc : Cls 8388608 2139095040 m c) (w : World) :
    Calls Tryz.prog 78 #[.agg #[.int .u64 32, .int .u64 8, .int .u64 23], .int .u64 p] w fun e w' => e = .returned (.bool (decide (c = 4))) ∧ ∃ x, w' = ext w x := by
  rcases hc with ⟨rfl, rfl⟩ | ⟨rfl, h1, h2⟩ | ⟨rfl, h1, h2⟩ | ⟨rfl, rfl⟩ | ⟨rfl, h1⟩
  case inr.inl => 
    have t0 : (m == 0) = false := by simp; omega
    have t1 : (m != 0) = true := by simp; omega
    have t4 : (m == 2139095040) = false := by simp; omega
    have t5 : m < 2139095040 := by omega
    have t6 : decide (8388608 ≤ m) = false := by simp; omega
    have t7 : decide (2139095040 < m) = false := by simp; omega
    clear h1
    go_enter Tryz.func78, Tryz.ntmps78
    go_wp2_with (first | (go_at_call 90; refine (magMask32 _).mono ?_; rintro e w' ⟨rfl, x, rfl⟩) | (go_at_call 158; refine (hiddenBit32 _).mono ?_; rintro e w' ⟨rfl, x, rfl⟩) | (go_at_call 85; refine (expMask32 _).mono ?_; rintro e w' ⟨rfl, x, rfl⟩))
    refine wp_region_ext (by kernel_rfl) (by kernel_rfl) ?_
    repeat (go_big_quiet_step ((first | (go_at_call 90; exact Calls_ext (magMask32 _)) | (go_at_call 85; exact Calls_ext (expMask32 _)))))
    refine wpQuiet_nil ?_
    rintro _ ⟨x, rfl⟩
    go_wp2
    go_ret
    exact ⟨rfl, Gr.of (by repeat (first | exact Gr.refl _ | refine Gr.alloc ?_ _ | refine Gr.ext ?_ _ | refine Gr.drew ?_))⟩
  case inr.inr.inl => 
    have t0 : (m == 0) = false := by simp; omega
    have t1 : (m != 0) = true := by simp; omega
    have t4 : (m == 2139095040) = false := by simp; omega
    have t5 : decide (m < 8388608) = false := by simp; omega
    have t7 : decide (2139095040 < m) = false := by simp; omega
    go_enter Tryz.func78, Tryz.ntmps78
    go_wp2_with (first | (go_at_call 90; refine (magMask32 _).mono ?_; rintro e w' ⟨rfl, x, rfl⟩) | (go_at_call 158; refine (hiddenBit32 _).mono ?_; rintro e w' ⟨rfl, x, rfl⟩) | (go_at_call 85; refine (expMask32 _).mono ?_; rintro e w' ⟨rfl, x, rfl⟩))
    refine wp_region_ext (by kernel_rfl) (by kernel_rfl) ?_
    repeat (go_big_quiet_step ((first | (go_at_call 90; exact Calls_ext (magMask32 _)) | (go_at_call 85; exact Calls_ext (expMask32 _)))))
    refine wpQuiet_nil ?_
    rintro _ ⟨x, rfl⟩
    go_wp2
    go_ret
    exact ⟨rfl, Gr.of (by repeat (first | exact Gr.refl _ | refine Gr.alloc ?_ _ | refine Gr.ext ?_ _ | refine Gr.drew ?_))⟩
  case inr.inr.inr.inr => 
    have t0 : (m == 0) = false := by simp; omega
    have t1 : (m != 0) = true := by simp; omega
    have t4 : (m == 2139095040) = false := by simp; omega
    have t5 : decide (m < 2139095040) = false := by simp; omega
    have t6 : decide (m < 8388608) = false := by simp; omega
    have t7 : 8388608 ≤ m := by omega
    go_enter Tryz.func78, Tryz.ntmps78
    go_wp2_with (first | (go_at_call 90; refine (magMask32 _).mono ?_; rintro e w' ⟨rfl, x, rfl⟩) | (go_at_call 158; refine (hiddenBit32 _).mono ?_; rintro e w' ⟨rfl, x, rfl⟩) | (go_at_call 85; refine (expMask32 _).mono ?_; rintro e w' ⟨rfl, x, rfl⟩))
    refine wp_region_ext (by kernel_rfl) (by kernel_rfl) ?_
    repeat (go_big_quiet_step ((first | (go_at_call 90; exact Calls_ext (magMask32 _)) | (go_at_call 85; exact Calls_ext (expMask32 _)))))
    refine wpQuiet_nil ?_
    rintro _ ⟨x, rfl⟩
    go_wp2
    go_ret
    exact ⟨rfl, Gr.of (by repeat (first | exact Gr.refl _ | refine Gr.alloc ?_ _ | refine Gr.ext ?_ _ | refine Gr.drew ?_))⟩
  all_goals
    go_enter Tryz.func78, Tryz.ntmps78
    go_wp2_with (first | (go_at_call 90; refine (magMask32 _).mono ?_; rintro e w' ⟨rfl, x, rfl⟩) | (go_at_call 158; refine (hiddenBit32 _).mono ?_; rintro e w' ⟨rfl, x, rfl⟩) | (go_at_call 85; refine (expMask32 _).mono ?_; rintro e w' ⟨rfl, x, rfl⟩))
    refine wp_region_ext (by kernel_rfl) (by kernel_rfl) ?_
    repeat (go_big_quiet_step ((first | (go_at_call 90; exact Calls_ext (magMask32 _)) | (go_at_call 85; exact Calls_ext (expMask32 _)))))
    refine wpQuiet_nil ?_
    rintro _ ⟨x, rfl⟩
    go_wp2
    go_ret
    exact ⟨rfl, Gr.of (by repeat (first | exact Gr.refl _ | refine Gr.alloc ?_ _ | refine Gr.ext ?_ _ | refine Gr.drew ?_))⟩

set_option maxHeartbeats 1000000 in
theorem isFinite32 (p m c : Int) (hm : bits .and .u64 p 2147483647 = m) (hc : Cls 8388608 2139095040 m c) (w : World) :
    Calls Tryz.prog 30 #[.agg #[.int .u64 32, .int .u64 8, .int .u64 23], .int .u64 p] w fun e w' => e = .returned (.bool (decide (c ≤ 2))) ∧ ∃ x, w' = ext w x := by
  rcases hc with ⟨rfl, rfl⟩ | ⟨rfl, h1, h2⟩ | ⟨rfl, h1, h2⟩ | ⟨rfl, rfl⟩ | ⟨rfl, h1⟩
  case inr.inl => 
    have t0 : (m == 0) = false := by simp; omega
    have t1 : (m != 0) = true := by simp; omega
    have t4 : (m == 2139095040) = false := by simp; omega
    have t5 : m < 2139095040 := by omega
    have t6 : decide (8388608 ≤ m) = false := by simp; omega
    have t7 : decide (2139095040 < m) = false := by simp; omega
    clear h1
    go_enter Tryz.func30, Tryz.ntmps30
    go_wp2_with (first | (go_at_call 90; refine (magMask32 _).mono ?_; rintro e w' ⟨rfl, x, rfl⟩) | (go_at_call 158; refine (hiddenBit32 _).mono ?_; rintro e w' ⟨rfl, x, rfl⟩) | (go_at_call 85; refine (expMask32 _).mono ?_; rintro e w' ⟨rfl, x, rfl⟩))
    refine wp_region_ext (by kernel_rfl) (by kernel_rfl) ?_
    repeat (go_big_quiet_step ((first | (go_at_call 90; exact Calls_ext (magMask32 _)) | (go_at_call 85; exact Calls_ext (expMask32 _)))))
    refine wpQuiet_nil ?_
    rintro _ ⟨x, rfl⟩
    go_wp2
    go_ret
    exact ⟨rfl, Gr.of (by repeat (first | exact Gr.refl _ | refine Gr.alloc ?_ _ | refine Gr.ext ?_ _ | refine Gr.drew ?_))⟩
  case inr.inr.inl => 
    have t0 : (m == 0) = false := by simp; omega
    have t1 : (m != 0) = true := by simp; omega
    have t4 : (m == 2139095040) = false := by simp; omega
    have t5 : decide (m < 8388608) = false := by simp; omega
    have t7 : decide (2139095040 < m) = false := by simp; omega
    go_enter Tryz.func30, Tryz.ntmps30
    go_wp2_with (first | (go_at_call 90; refine (magMask32 _).mono ?_; rintro e w' ⟨rfl, x, rfl⟩) | (go_at_call 158; refine (hiddenBit32 _).mono ?_; rintro e w' ⟨rfl, x, rfl⟩) | (go_at_call 85; refine (expMask32 _).mono ?_; rintro e w' ⟨rfl, x, rfl⟩))
    refine wp_region_ext (by kernel_rfl) (by kernel_rfl) ?_
    repeat (go_big_quiet_step ((first | (go_at_call 90; exact Calls_ext (magMask32 _)) | (go_at_call 85; exact Calls_ext (expMask32 _)))))
    refine wpQuiet_nil ?_
    rintro _ ⟨x, rfl⟩
    go_wp2
    go_ret
    exact ⟨rfl, Gr.of (by repeat (first | exact Gr.refl _ | refine Gr.alloc ?_ _ | refine Gr.ext ?_ _ | refine Gr.drew ?_))⟩
  case inr.inr.inr.inr => 
    have t0 : (m == 0) = false := by simp; omega
    have t1 : (m != 0) = true := by simp; omega
    have t4 : (m == 2139095040) = false := by simp; omega
    have t5 : decide (m < 2139095040) = false := by simp; omega
    have t6 : decide (m < 8388608) = false := by simp; omega
    have t7 : 8388608 ≤ m := by omega
    go_enter Tryz.func30, Tryz.ntmps30
    go_wp2_with (first | (go_at_call 90; refine (magMask32 _).mono ?_; rintro e w' ⟨rfl, x, rfl⟩) | (go_at_call 158; refine (hiddenBit32 _).mono ?_; rintro e w' ⟨rfl, x, rfl⟩) | (go_at_call 85; refine (expMask32 _).mono ?_; rintro e w' ⟨rfl, x, rfl⟩))
    refine wp_region_ext (by kernel_rfl) (by kernel_rfl) ?_
    repeat (go_big_quiet_step ((first | (go_at_call 90; exact Calls_ext (magMask32 _)) | (go_at_call 85; exact Calls_ext (expMask32 _)))))
    refine wpQuiet_nil ?_
    rintro _ ⟨x, rfl⟩
    go_wp2
    go_ret
    exact ⟨rfl, Gr.of (by repeat (first | exact Gr.refl _ | refine Gr.alloc ?_ _ | refine Gr.ext ?_ _ | refine Gr.drew ?_))⟩
  all_goals
    go_enter Tryz.func30, Tryz.ntmps30
    go_wp2_with (first | (go_at_call 90; refine (magMask32 _).mono ?_; rintro e w' ⟨rfl, x, rfl⟩) | (go_at_call 158; refine (hiddenBit32 _).mono ?_; rintro e w' ⟨rfl, x, rfl⟩) | (go_at_call 85; refine (expMask32 _).mono ?_; rintro e w' ⟨rfl, x, rfl⟩))
    refine wp_region_ext (by kernel_rfl) (by kernel_rfl) ?_
    repeat (go_big_quiet_step ((first | (go_at_call 90; exact Calls_ext (magMask32 _)) | (go_at_call 85; exact Calls_ext (expMask32 _)))))
    refine wpQuiet_nil ?_
    rintro _ ⟨x, rfl⟩
    go_wp2
    go_ret
    exact ⟨rfl, Gr.of (by repeat (first | exact Gr.refl _ | refine Gr.alloc ?_ _ | refine Gr.ext ?_ _ | refine Gr.drew ?_))⟩

set_option maxHeartbeats 1000000 in
theorem classify64 (p m c : Int) (hm : bits .and .u64 p 9223372036854775807 = m) (hc : Cls 4503599627370496 9218868437227405312 m c) (w : World) :
    Calls Tryz.prog 72 #[.agg #[.int .u64 64, .int .u64 11, .int .u64 52], .int .u64 p] w fun e w' => e = .returned (.int .u8 c) ∧ ∃ x, w' = ext w x := by
  rcases hc with ⟨rfl, rfl⟩ | ⟨rfl, h1, h2⟩ | ⟨rfl, h1, h2⟩ | ⟨rfl, rfl⟩ | ⟨rfl, h1⟩
  case inr.inl => 
    have t0 : (m == 0) = false := by simp; omega
    have t1 : (m != 0) = true := by simp; omega
    have t4 : (m == 9218868437227405312) = false := by simp; omega
    have t5 : m < 9218868437227405312 := by omega
    have t6 : decide (4503599627370496 ≤ m) = false := by simp; omega
    have t7 : decide (9218868437227405312 < m) = false := by simp; omega
    clear h1
    go_enter Tryz.func72, Tryz.ntmps72
    go_wp2_with (first | (go_at_call 90; refine (magMask64 _).mono ?_; rintro e w' ⟨rfl, x, rfl⟩) | (go_at_call 158; refine (hiddenBit64 _).mono ?_; rintro e w' ⟨rfl, x, rfl⟩) | (go_at_call 85; refine (expMask64 _).mono ?_; rintro e w' ⟨rfl, x, rfl⟩))
    go_ret
    exact ⟨rfl, Gr.of (by repeat (first | exact Gr.refl _ | refine Gr.alloc ?_ _ | refine Gr.ext ?_ _ | refine Gr.drew ?_))⟩
  case inr.inr.inl => 
    have t0 : (m == 0) = false := by simp; omega
    have t1 : (m != 0) = true := by simp; omega
    have t4 : (m == 9218868437227405312) = false := by simp; omega
    have t5 : decide (m < 4503599627370496) = false := by simp; omega
    have t7 : decide (9218868437227405312 < m) = false := by simp; omega
    go_enter Tryz.func72, Tryz.ntmps72
    go_wp2_with (first | (go_at_call 90; refine (magMask64 _).mono ?_; rintro e w' ⟨rfl, x, rfl⟩) | (go_at_call 158; refine (hiddenBit64 _).mono ?_; rintro e w' ⟨rfl, x, rfl⟩) | (go_at_call 85; refine (expMask64 _).mono ?_; rintro e w' ⟨rfl, x, rfl⟩))
    go_ret
    exact ⟨rfl, Gr.of (by repeat (first | exact Gr.refl _ | refine Gr.alloc ?_ _ | refine Gr.ext ?_ _ | refine Gr.drew ?_))⟩
  case inr.inr.inr.inr => 
    have t0 : (m == 0) = false := by simp; omega
    have t1 : (m != 0) = true := by simp; omega
    have t4 : (m == 9218868437227405312) = false := by simp; omega
    have t5 : decide (m < 9218868437227405312) = false := by simp; omega
    have t6 : decide (m < 4503599627370496) = false := by simp; omega
    have t7 : 4503599627370496 ≤ m := by omega
    go_enter Tryz.func72, Tryz.ntmps72
    go_wp2_with (first | (go_at_call 90; refine (magMask64 _).mono ?_; rintro e w' ⟨rfl, x, rfl⟩) | (go_at_call 158; refine (hiddenBit64 _).mono ?_; rintro e w' ⟨rfl, x, rfl⟩) | (go_at_call 85; refine (expMask64 _).mono ?_; rintro e w' ⟨rfl, x, rfl⟩))
    go_ret
    exact ⟨rfl, Gr.of (by repeat (first | exact Gr.refl _ | refine Gr.alloc ?_ _ | refine Gr.ext ?_ _ | refine Gr.drew ?_))⟩
  all_goals
    go_enter Tryz.func72, Tryz.ntmps72
    go_wp2_with (first | (go_at_call 90; refine (magMask64 _).mono ?_; rintro e w' ⟨rfl, x, rfl⟩) | (go_at_call 158; refine (hiddenBit64 _).mono ?_; rintro e w' ⟨rfl, x, rfl⟩) | (go_at_call 85; refine (expMask64 _).mono ?_; rintro e w' ⟨rfl, x, rfl⟩))
    go_ret
    exact ⟨rfl, Gr.of (by repeat (first | exact Gr.refl _ | refine Gr.alloc ?_ _ | refine Gr.ext ?_ _ | refine Gr.drew ?_))⟩

set_option maxHeartbeats 1000000 in
theorem isZero64 (p m c : Int) (hm : bits .and .u64 p 9223372036854775807 = m) (hc : Cls 4503599627370496 9218868437227405312 m c) (w : World) :
    Calls Tryz.prog 74 #[.agg #[.int .u64 64, .int .u64 11, .int .u64 52], .int .u64 p] w fun e w' => e = .returned (.bool (decide (c = 0))) ∧ ∃ x, w' = ext w x := by
  rcases hc with ⟨rfl, rfl⟩ | ⟨rfl, h1, h2⟩ | ⟨rfl, h1, h2⟩ | ⟨rfl, rfl⟩ | ⟨rfl, h1⟩
  case inr.inl => 
    have t0 : (m == 0) = false := by simp; omega
    have t1 : (m != 0) = true := by simp; omega
    have t4 : (m == 9218868437227405312) = false := by simp; omega
    have t5 : m < 9218868437227405312 := by omega
    have t6 : decide (4503599627370496 ≤ m) = false := by simp; omega
    have t7 : decide (9218868437227405312 < m) = false := by simp; omega
    clear h1
    go_enter Tryz.func74, Tryz.ntmps74
    go_wp2_with (first | (go_at_call 90; refine (magMask64 _).mono ?_; rintro e w' ⟨rfl, x, rfl⟩) | (go_at_call 158; refine (hiddenBit64 _).mono ?_; rintro e w' ⟨rfl, x, rfl⟩) | (go_at_call 85; refine (expMask64 _).mono ?_; rintro e w' ⟨rfl, x, rfl⟩))
    go_ret
    exact ⟨rfl, Gr.of (by repeat (first | exact Gr.refl _ | refine Gr.alloc ?_ _ | refine Gr.ext ?_ _ | refine Gr.drew ?_))⟩
  case inr.inr.inl => 
    have t0 : (m == 0) = false := by simp; omega
    have t1 : (m != 0) = true := by simp; omega
    have t4 : (m == 9218868437227405312) = false := by simp; omega
    have t5 : decide (m < 4503599627370496) = false := by simp; omega
    have t7 : decide (9218868437227405312 < m) = false := by simp; omega
    go_enter Tryz.func74, Tryz.ntmps74
    go_wp2_with (first | (go_at_call 90; refine (magMask64 _).mono ?_; rintro e w' ⟨rfl, x, rfl⟩) | (go_at_call 158; refine (hiddenBit64 _).mono ?_; rintro e w' ⟨rfl, x, rfl⟩) | (go_at_call 85; refine (expMask64 _).mono ?_; rintro e w' ⟨rfl, x, rfl⟩))
    go_ret
    exact ⟨rfl, Gr.of (by repeat (first | exact Gr.refl _ | refine Gr.alloc ?_ _ | refine Gr.ext ?_ _ | refine Gr.drew ?_))⟩
  case inr.inr.inr.inr => 
    have t0 : (m == 0) = false := by simp; omega
    have t1 : (m != 0) = true := by simp; omega
    have t4 : (m == 9218868437227405312) = false := by simp; omega
    have t5 : decide (m < 9218868437227405312) = false := by simp; omega
    have t6 : decide (m < 4503599627370496) = false := by simp; omega
    have t7 : 4503599627370496 ≤ m := by omega
    go_enter Tryz.func74, Tryz.ntmps74
    go_wp2_with (first | (go_at_call 90; refine (magMask64 _).mono ?_; rintro e w' ⟨rfl, x, rfl⟩) | (go_at_call 158; refine (hiddenBit64 _).mono ?_; rintro e w' ⟨rfl, x, rfl⟩) | (go_at_call 85; refine (expMask64 _).mono ?_; rintro e w' ⟨rfl, x, rfl⟩))
    go_ret
    exact ⟨rfl, Gr.of (by repeat (first | exact Gr.refl _ | refine Gr.alloc ?_ _ | refine Gr.ext ?_ _ | refine Gr.drew ?_))⟩
  all_goals
    go_enter Tryz.func74, Tryz.ntmps74
    go_wp2_with (first | (go_at_call 90; refine (magMask64 _).mono ?_; rintro e w' ⟨rfl, x, rfl⟩) | (go_at_call 158; refine (hiddenBit64 _).mono ?_; rintro e w' ⟨rfl, x, rfl⟩) | (go_at_call 85; refine (expMask64 _).mono ?_; rintro e w' ⟨rfl, x, rfl⟩))
    go_ret
    exact ⟨rfl, Gr.of (by repeat (first | exact Gr.refl _ | refine Gr.alloc ?_ _ | refine Gr.ext ?_ _ | refine Gr.drew ?_))⟩

set_option maxHeartbeats 1000000 in
theorem isDenormal64 (p m c : Int) (hm : bits .and .u64 p 9223372036854775807 = m) (hc : Cls 4503599627370496 9218868437227405312 m c) (w : World) :
    Calls Tryz.prog 75 #[.agg #[.int .u64 64, .int .u64 11, .int .u64 52], .int .u64 p] w fun e w' => e = .returned (.bool (decide (c = 1))) ∧ ∃ x, w' = ext w x := by
  rcases hc with ⟨rfl, rfl⟩ | ⟨rfl, h1, h2⟩ | ⟨rfl, h1, h2⟩ | ⟨rfl, rfl⟩ | ⟨rfl, h1⟩
  case inr.inl => 
    have t0 : (m == 0) = false := by simp; omega
    have t1 : (m != 0) = true := by simp; omega
    have t4 : (m == 9218868437227405312) = false := by simp; omega
    have t5 : m < 9218868437227405312 := by omega
    have t6 : decide (4503599627370496 ≤ m) = false := by simp; omega
    have t7 : decide (9218868437227405312 < m) = false := by simp; omega
    clear h1
    go_enter Tryz.func75, Tryz.ntmps75
    go_wp2_with (first | (go_at_call 90; refine (magMask64 _).mono ?_; rintro e w' ⟨rfl, x, rfl⟩) | (go_at_call 158; refine (hiddenBit64 _).mono ?_; rintro e w' ⟨rfl, x, rfl⟩) | (go_at_call 85; refine (expMask64 _).mono ?_; rintro e w' ⟨rfl, x, rfl⟩))
    go_ret
    exact ⟨rfl, Gr.of (by repeat (first | exact Gr.refl _ | refine Gr.alloc ?_ _ | refine Gr.ext ?_ _ | refine Gr.drew ?_))⟩
  case inr.inr.inl => 
    have t0 : (m == 0) = false := by simp; omega
    have t1 : (m != 0) = true := by simp; omega
    have t4 : (m == 9218868437227405312) = false := by simp; omega
    have t5 : decide (m < 4503599627370496) = false := by simp; omega
    have t7 : decide (9218868437227405312 < m) = false := by simp; omega
    go_enter Tryz.func75, Tryz.ntmps75
    go_wp2_with (first | (go_at_call 90; refine (magMask64 _).mono ?_; rintro e w' ⟨rfl, x, rfl⟩) | (go_at_call 158; refine (hiddenBit64 _).mono ?_; rintro e w' ⟨rfl, x, rfl⟩) | (go_at_call 85; refine (expMask64 _).mono ?_; rintro e w' ⟨rfl, x, rfl⟩))
    go_ret
    exact ⟨rfl, Gr.of (by repeat (first | exact Gr.refl _ | refine Gr.alloc ?_ _ | refine Gr.ext ?_ _ | refine Gr.drew ?_))⟩
  case inr.inr.inr.inr => 
    have t0 : (m == 0) = false := by simp; omega
    have t1 : (m != 0) = true := by simp; omega
    have t4 : (m == 9218868437227405312) = false := by simp; omega
    have t5 : decide (m < 9218868437227405312) = false := by simp; omega
    have t6 : decide (m < 4503599627370496) = false := by simp; omega
    have t7 : 4503599627370496 ≤ m := by omega
    go_enter Tryz.func75, Tryz.ntmps75
    go_wp2_with (first | (go_at_call 90; refine (magMask64 _).mono ?_; rintro e w' ⟨rfl, x, rfl⟩) | (go_at_call 158; refine (hiddenBit64 _).mono ?_; rintro e w' ⟨rfl, x, rfl⟩) | (go_at_call 85; refine (expMask64 _).mono ?_; rintro e w' ⟨rfl, x, rfl⟩))
    go_ret
    exact ⟨rfl, Gr.of (by repeat (first | exact Gr.refl _ | refine Gr.alloc ?_ _ | refine Gr.ext ?_ _ | refine Gr.drew ?_))⟩
  all_goals
    go_enter Tryz.func75, Tryz.ntmps75
    go_wp2_with (first | (go_at_call 90; refine (magMask64 _).mono ?_; rintro e w' ⟨rfl, x, rfl⟩) | (go_at_call 158; refine (hiddenBit64 _).mono ?_; rintro e w' ⟨rfl, x, rfl⟩) | (go_at_call 85; refine (expMask64 _).mono ?_; rintro e w' ⟨rfl, x, rfl⟩))
    go_ret
    exact ⟨rfl, Gr.of (by repeat (first | exact Gr.refl _ | refine Gr.alloc ?_ _ | refine Gr.ext ?_ _ | refine Gr.drew ?_))⟩

set_option maxHeartbeats 1000000 in
theorem isNormal64 (p m c : Int) (hm : bits .and .u64 p 9223372036854775807 = m) (hc : Cls 4503599627370496 9218868437227405312 m c) (w : World) :
    Calls Tryz.prog 76 #[.agg #[.int .u64 64, .int .u64 11, .int .u64 52], .int .u64 p] w fun e w' => e = .returned (.bool (decide (c = 2))) ∧ ∃ x, w' = ext w x := by
  rcases hc with ⟨rfl, rfl⟩ | ⟨rfl, h1, h2⟩ | ⟨rfl, h1, h2⟩ | ⟨rfl, rfl⟩ | ⟨rfl, h1⟩
  case inr.inl => 
    have t0 : (m == 0) = false := by simp; omega
    have t1 : (m != 0) = true := by simp; omega
    have t4 : (m == 9218868437227405312) = false := by simp; omega
    have t5 : m < 9218868437227405312 := by omega
    have t6 : decide (4503599627370496 ≤ m) = false := by simp; omega
    have t7 : decide (9218868437227405312 < m) = false := by simp; omega
    clear h1
    go_enter Tryz.func76, Tryz.ntmps76
    go_wp2_with (first | (go_at_call 90; refine (magMask64 _).mono ?_; rintro e w' ⟨rfl, x, rfl⟩) | (go_at_call 158; refine (hiddenBit64 _).mono ?_; rintro e w' ⟨rfl, x, rfl⟩) | (go_at_call 85; refine (expMask64 _).mono ?_; rintro e w' ⟨rfl, x, rfl⟩))
    go_ret
    exact ⟨rfl, Gr.of (by repeat (first | exact Gr.refl _ | refine Gr.alloc ?_ _ | refine Gr.ext ?_ _ | refine Gr.drew ?_))⟩
  case inr.inr.inl => 
    have t0 : (m == 0) = false := by simp; omega
    have t1 : (m != 0) = true := by simp; omega
    have t4 : (m == 9218868437227405312) = false := by simp; omega
    have t5 : decide (m < 4503599627370496) = false := by simp; omega
    have t7 : decide (9218868437227405312 < m) = false := by simp; omega
    go_enter Tryz.func76, Tryz.ntmps76
    go_wp2_with (first | (go_at_call 90; refine (magMask64 _).mono ?_; rintro e w' ⟨rfl, x, rfl⟩) | (go_at_call 158; refine (hiddenBit64 _).mono ?_; rintro e w' ⟨rfl, x, rfl⟩) | (go_at_call 85; refine (expMask64 _).mono ?_; rintro e w' ⟨rfl, x, rfl⟩))
    go_ret
    exact ⟨rfl, Gr.of (by repeat (first | exact Gr.refl _ | refine Gr.alloc ?_ _ | refine Gr.ext ?_ _ | refine Gr.drew ?_))⟩
  case inr.inr.inr.inr => 
    have t0 : (m == 0) = false := by simp; omega
    have t1 : (m != 0) = true := by simp; omega
    have t4 : (m == 9218868437227405312) = false := by simp; omega
    have t5 : decide (m < 9218868437227405312) = false := by simp; omega
    have t6 : decide (m < 4503599627370496) = false := by simp; omega
    have t7 : 4503599627370496 ≤ m := by omega
    go_enter Tryz.func76, Tryz.ntmps76
    go_wp2_with (first | (go_at_call 90; refine (magMask64 _).mono ?_; rintro e w' ⟨rfl, x, rfl⟩) | (go_at_call 158; refine (hiddenBit64 _).mono ?_; rintro e w' ⟨rfl, x, rfl⟩) | (go_at_call 85; refine (expMask64 _).mono ?_; rintro e w' ⟨rfl, x, rfl⟩))
    go_ret
    exact ⟨rfl, Gr.of (by repeat (first | exact Gr.refl _ | refine Gr.alloc ?_ _ | refine Gr.ext ?_ _ | refine Gr.drew ?_))⟩
  all_goals
    go_enter Tryz.func76, Tryz.ntmps76
    go_wp2_with (first | (go_at_call 90; refine (magMask64 _).mono ?_; rintro e w' ⟨rfl, x, rfl⟩) | (go_at_call 158; refine (hiddenBit64 _).mono ?_; rintro e w' ⟨rfl, x, rfl⟩) | (go_at_call 85; refine (expMask64 _).mono ?_; rintro e w' ⟨rfl, x, rfl⟩))
    go_ret
    exact ⟨rfl, Gr.of (by repeat (first | exact Gr.refl _ | refine Gr.alloc ?_ _ | refine Gr.ext ?_ _ | refine Gr.drew ?_))⟩

set_option maxHeartbeats 1000000 in
theorem isInf64 (p m c : Int) (hm : bits .and .u64 p 9223372036854775807 = m) (hc : Cls 4503599627370496 9218868437227405312 m c) (w : World) :
    Calls Tryz.prog 77 #[.agg #[.int .u64 64, .int .u64 11, .int .u64 52], .int .u64 p] w fun e w' => e = .returned (.bool (decide (c = 3))) ∧ ∃ x, w' = ext w x := by
  rcases hc with ⟨rfl, rfl⟩ | ⟨rfl, h1, h2⟩ | ⟨rfl, h1, h2⟩ | ⟨rfl, rfl⟩ | ⟨rfl, h1⟩
  case inr.inl => 
    have t0 : (m == 0) = false := by simp; omega
    have t1 : (m != 0) = true := by simp; omega
    have t4 : (m == 9218868437227405312) = false := by simp; omega
    have t5 : m < 9218868437227405312 := by omega
    have t6 : decide (4503599627370496 ≤ m) = false := by simp; omega
    have t7 : decide (9218868437227405312 < m) = false := by simp; omega
    clear h1
    go_enter Tryz.func77, Tryz.ntmps77
    go_wp2_with (first | (go_at_call 90; refine (magMask64 _).mono ?_; rintro e w' ⟨rfl, x, rfl⟩) | (go_at_call 158; refine (hiddenBit64 _).mono ?_; rintro e w' ⟨rfl, x, rfl⟩) | (go_at_call 85; refine (expMask64 _).mono ?_; rintro e w' ⟨rfl, x, rfl⟩))
    refine wp_region_ext (by kernel_rfl) (by kernel_rfl) ?_
    repeat (go_big_quiet_step ((first | (go_at_call 90; exact Calls_ext (magMask64 _)) | (go_at_call 85; exact Calls_ext (expMask64 _)))))
    refine wpQuiet_nil ?_
    rintro _ ⟨x, rfl⟩
    go_wp2
    go_ret
    exact ⟨rfl, Gr.of (by repeat (first | exact Gr.refl _ | refine Gr.alloc ?_ _ | refine Gr.ext ?_ _ | refine Gr.drew ?_))⟩
  case inr.inr.inl => 
    have t0 : (m == 0) = false := by simp; omega
    have t1 : (m != 0) = true := by simp; omega
    have t4 : (m == 9218868437227405312) = false := by simp; omega
    have t5 : decide (m < 4503599627370496) = false := by simp; omega
    have t7 : decide (9218868437227405312 < m) = false := by simp; omega
    go_enter Tryz.func77, Tryz.ntmps77
    go_wp2_with (first | (go_at_call 90; refine (magMask64 _).mono ?_; rintro e w' ⟨rfl, x, rfl⟩) | (go_at_call 158; refine (hiddenBit64 _).mono ?_; rintro e w' ⟨rfl, x, rfl⟩) | (go_at_call 85; refine (expMask64 _).mono ?_; rintro e w' ⟨rfl, x, rfl⟩))
    refine wp_region_ext (by kernel_rfl) (by kernel_rfl) ?_
    repeat (go_big_quiet_step ((first | (go_at_call 90; exact Calls_ext (magMask64 _)) | (go_at_call 85; exact Calls_ext (expMask64 _)))))
    refine wpQuiet_nil ?_
    rintro _ ⟨x, rfl⟩
    go_wp2
    go_ret
    exact ⟨rfl, Gr.of (by repeat (first | exact Gr.refl _ | refine Gr.alloc ?_ _ | refine Gr.ext ?_ _ | refine Gr.drew ?_))⟩
  case inr.inr.inr.inr => 
    have t0 : (m == 0) = false := by simp; omega
    have t1 : (m != 0) = true := by simp; omega
    have t4 : (m == 9218868437227405312) = false := by simp; omega
    have t5 : decide (m < 9218868437227405312) = false := by simp; omega
    have t6 : decide (m < 4503599627370496) = false := by simp; omega
    have t7 : 4503599627370496 ≤ m := by omega
    go_enter Tryz.func77, Tryz.ntmps77
    go_wp2_with (first | (go_at_call 90; refine (magMask64 _).mono ?_; rintro e w' ⟨rfl, x, rfl⟩) | (go_at_call 158; refine (hiddenBit64 _).mono ?_; rintro e w' ⟨rfl, x, rfl⟩) | (go_at_call 85; refine (expMask64 _).mono ?_; rintro e w' ⟨rfl, x, rfl⟩))
    refine wp_region_ext (by kernel_rfl) (by kernel_rfl) ?_
    repeat (go_big_quiet_step ((first | (go_at_call 90; exact Calls_ext (magMask64 _)) | (go_at_call 85; exact Calls_ext (expMask64 _)))))
    refine wpQuiet_nil ?_
    rintro _ ⟨x, rfl⟩
    go_wp2
    go_ret
    exact ⟨rfl, Gr.of (by repeat (first | exact Gr.refl _ | refine Gr.alloc ?_ _ | refine Gr.ext ?_ _ | refine Gr.drew ?_))⟩
  all_goals
    go_enter Tryz.func77, Tryz.ntmps77
    go_wp2_with (first | (go_at_call 90; refine (magMask64 _).mono ?_; rintro e w' ⟨rfl, x, rfl⟩) | (go_at_call 158; refine (hiddenBit64 _).mono ?_; rintro e w' ⟨rfl, x, rfl⟩) | (go_at_call 85; refine (expMask64 _).mono ?_; rintro e w' ⟨rfl, x, rfl⟩))
    refine wp_region_ext (by kernel_rfl) (by kernel_rfl) ?_
    repeat (go_big_quiet_step ((first | (go_at_call 90; exact Calls_ext (magMask64 _)) | (go_at_call 85; exact Calls_ext (expMask64 _)))))
    refine wpQuiet_nil ?_
    rintro _ ⟨x, rfl⟩
    go_wp2
    go_ret
    exact ⟨rfl, Gr.of (by repeat (first | exact Gr.refl _ | refine Gr.alloc ?_ _ | refine Gr.ext ?_ _ | refine Gr.drew ?_))⟩

set_option maxHeartbeats 1000000 in
theorem isNaN64 (p m c : Int) (hm : bits .and .u64 p 9223372036854775807 = m) (hc : Cls 4503599627370496 9218868437227405312 m c) (w : World) :
    Calls Tryz.prog 78 #[.agg #[.int .u64 64, .int .u64 11, .int .u64 52], .int .u64 p] w fun e w' => e = .returned (.bool (decide (c = 4))) ∧ ∃ x, w' = ext w x := by
  rcases hc with ⟨rfl, rfl⟩ | ⟨rfl, h1, h2⟩ | ⟨rfl, h1, h2⟩ | ⟨rfl, rfl⟩ | ⟨rfl, h1⟩
  case inr.inl => 
    have t0 : (m == 0) = false := by simp; omega
    have t1 : (m != 0) = true := by simp; omega
    have t4 : (m == 9218868437227405312) = false := by simp; omega
    have t5 : m < 9218868437227405312 := by omega
    have t6 : decide (4503599627370496 ≤ m) = false := by simp; omega
    have t7 : decide (9218868437227405312 < m) = false := by simp; omega
    clear h1
    go_enter Tryz.func78, Tryz.ntmps78
    go_wp2_with (first | (go_at_call 90; refine (magMask64 _).mono ?_; rintro e w' ⟨rfl, x, rfl⟩) | (go_at_call 158; refine (hiddenBit64 _).mono ?_; rintro e w' ⟨rfl, x, rfl⟩) | (go_at_call 85; refine (expMask64 _).mono ?_; rintro e w' ⟨rfl, x, rfl⟩))
    refine wp_region_ext (by kernel_rfl) (by kernel_rfl) ?_
    repeat (go_big_quiet_step ((first | (go_at_call 90; exact Calls_ext (magMask64 _)) | (go_at_call 85; exact Calls_ext (expMask64 _)))))
    refine wpQuiet_nil ?_
    rintro _ ⟨x, rfl⟩
    go_wp2
    go_ret
    exact ⟨rfl, Gr.of (by repeat (first | exact Gr.refl _ | refine Gr.alloc ?_ _ | refine Gr.ext ?_ _ | refine Gr.drew ?_))⟩
  case inr.inr.inl => 
    have t0 : (m == 0) = false := by simp; omega
    have t1 : (m != 0) = true := by simp; omega
    have t4 : (m == 9218868437227405312) = false := by simp; omega
    have t5 : decide (m < 4503599627370496) = false := by simp; omega
    have t7 : decide (9218868437227405312 < m) = false := by simp; omega
    go_enter Tryz.func78, Tryz.ntmps78
    go_wp2_with (first | (go_at_call 90; refine (magMask64 _).mono ?_; rintro e w' ⟨rfl, x, rfl⟩) | (go_at_call 158; refine (hiddenBit64 _).mono ?_; rintro e w' ⟨rfl, x, rfl⟩) | (go_at_call 85; refine (expMask64 _).mono ?_; rintro e w' ⟨rfl, x, rfl⟩))
    refine wp_region_ext (by kernel_rfl) (by kernel_rfl) ?_
    repeat (go_big_quiet_step ((first | (go_at_call 90; exact Calls_ext (magMask64 _)) | (go_at_call 85; exact Calls_ext (expMask64 _)))))
    refine wpQuiet_nil ?_
    rintro _ ⟨x, rfl⟩
    go_wp2
    go_ret
    exact ⟨rfl, Gr.of (by repeat (first | exact Gr.refl _ | refine Gr.alloc ?_ _ | refine Gr.ext ?_ _ | refine Gr.drew ?_))⟩
  case inr.inr.inr.inr => 
    have t0 : (m == 0) = false := by simp; omega
    have t1 : (m != 0) = true := by simp; omega
    have t4 : (m == 9218868437227405312) = false := by simp; omega
    have t5 : decide (m < 9218868437227405312) = false := by simp; omega
    have t6 : decide (m < 4503599627370496) = false := by simp; omega
    have t7 : 4503599627370496 ≤ m := by omega
    go_enter Tryz.func78, Tryz.ntmps78
    go_wp2_with (first | (go_at_call 90; refine (magMask64 _).mono ?_; rintro e w' ⟨rfl, x, rfl⟩) | (go_at_call 158; refine (hiddenBit64 _).mono ?_; rintro e w' ⟨rfl, x, rfl⟩) | (go_at_call 85; refine (expMask64 _).mono ?_; rintro e w' ⟨rfl, x, rfl⟩))
    refine wp_region_ext (by kernel_rfl) (by kernel_rfl) ?_
    repeat (go_big_quiet_step ((first | (go_at_call 90; exact Calls_ext (magMask64 _)) | (go_at_call 85; exact Calls_ext (expMask64 _)))))
    refine wpQuiet_nil ?_
    rintro _ ⟨x, rfl⟩
    go_wp2
    go_ret
    exact ⟨rfl, Gr.of (by repeat (first | exact Gr.refl _ | refine Gr.alloc ?_ _ | refine Gr.ext ?_ _ | refine Gr.drew ?_))⟩
  all_goals
    go_enter Tryz.func78, Tryz.ntmps78
    go_wp2_with (first | (go_at_call 90; refine (magMask64 _).mono ?_; rintro e w' ⟨rfl, x, rfl⟩) | (go_at_call 158; refine (hiddenBit64 _).mono ?_; rintro e w' ⟨rfl, x, rfl⟩) | (go_at_call 85; refine (expMask64 _).mono ?_; rintro e w' ⟨rfl, x, rfl⟩))
    refine wp_region_ext (by kernel_rfl) (by kernel_rfl) ?_
    repeat (go_big_quiet_step ((first | (go_at_call 90; exact Calls_ext (magMask64 _)) | (go_at_call 85; exact Calls_ext (expMask64 _)))))
    refine wpQuiet_nil ?_
    rintro _ ⟨x, rfl⟩
    go_wp2
    go_ret
    exact ⟨rfl, Gr.of (by repeat (first | exact Gr.refl _ | refine Gr.alloc ?_ _ | refine Gr.ext ?_ _ | refine Gr.drew ?_))⟩

set_option maxHeartbeats 1000000 in
theorem isFinite64 (p m c : Int) (hm : bits .and .u64 p 9223372036854775807 = m) (hc : Cls 4503599627370496 9218868437227405312 m c) (w : World) :
    Calls Tryz.prog 30 #[.agg #[.int .u64 64, .int .u64 11, .int .u64 52], .int .u64 p] w fun e w' => e = .returned (.bool (decide (c ≤ 2))) ∧ ∃ x, w' = ext w x := by
  rcases hc with ⟨rfl, rfl⟩ | ⟨rfl, h1, h2⟩ | ⟨rfl, h1, h2⟩ | ⟨rfl, rfl⟩ | ⟨rfl, h1⟩
  case inr.inl => 
    have t0 : (m == 0) = false := by simp; omega
    have t1 : (m != 0) = true := by simp; omega
    have t4 : (m == 9218868437227405312) = false := by simp; omega
    have t5 : m < 9218868437227405312 := by omega
    have t6 : decide (4503599627370496 ≤ m) = false := by simp; omega
    have t7 : decide (9218868437227405312 < m) = false := by simp; omega
    clear h1
    go_enter Tryz.func30, Tryz.ntmps30
    go_wp2_with (first | (go_at_call 90; refine (magMask64 _).mono ?_; rintro e w' ⟨rfl, x, rfl⟩) | (go_at_call 158; refine (hiddenBit64 _).mono ?_; rintro e w' ⟨rfl, x, rfl⟩) | (go_at_call 85; refine (expMask64 _).mono ?_; rintro e w' ⟨rfl, x, rfl⟩))
    refine wp_region_ext (by kernel_rfl) (by kernel_rfl) ?_
    repeat (go_big_quiet_step ((first | (go_at_call 90; exact Calls_ext (magMask64 _)) | (go_at_call 85; exact Calls_ext (expMask64 _)))))
    refine wpQuiet_nil ?_
    rintro _ ⟨x, rfl⟩
    go_wp2
    go_ret
    exact ⟨rfl, Gr.of (by repeat (first | exact Gr.refl _ | refine Gr.alloc ?_ _ | refine Gr.ext ?_ _ | refine Gr.drew ?_))⟩
  case inr.inr.inl => 
    have t0 : (m == 0) = false := by simp; omega
    have t1 : (m != 0) = true := by simp; omega
    have t4 : (m == 9218868437227405312) = false := by simp; omega
    have t5 : decide (m < 4503599627370496) = false := by simp; omega
    have t7 : decide (9218868437227405312 < m) = false := by simp; omega
    go_enter Tryz.func30, Tryz.ntmps30
    go_wp2_with (first | (go_at_call 90; refine (magMask64 _).mono ?_; rintro e w' ⟨rfl, x, rfl⟩) | (go_at_call 158; refine (hiddenBit64 _).mono ?_; rintro e w' ⟨rfl, x, rfl⟩) | (go_at_call 85; refine (expMask64 _).mono ?_; rintro e w' ⟨rfl, x, rfl⟩))
    refine wp_region_ext (by kernel_rfl) (by kernel_rfl) ?_
    repeat (go_big_quiet_step ((first | (go_at_call 90; exact Calls_ext (magMask64 _)) | (go_at_call 85; exact Calls_ext (expMask64 _)))))
    refine wpQuiet_nil ?_
    rintro _ ⟨x, rfl⟩
    go_wp2
    go_ret
    exact ⟨rfl, Gr.of (by repeat (first | exact Gr.refl _ | refine Gr.alloc ?_ _ | refine Gr.ext ?_ _ | refine Gr.drew ?_))⟩
  case inr.inr.inr.inr => 
    have t0 : (m == 0) = false := by simp; omega
    have t1 : (m != 0) = true := by simp; omega
    have t4 : (m == 9218868437227405312) = false := by simp; omega
    have t5 : decide (m < 9218868437227405312) = false := by simp; omega
    have t6 : decide (m < 4503599627370496) = false := by simp; omega
    have t7 : 4503599627370496 ≤ m := by omega
    go_enter Tryz.func30, Tryz.ntmps30
    go_wp2_with (first | (go_at_call 90; refine (magMask64 _).mono ?_; rintro e w' ⟨rfl, x, rfl⟩) | (go_at_call 158; refine (hiddenBit64 _).mono ?_; rintro e w' ⟨rfl, x, rfl⟩) | (go_at_call 85; refine (expMask64 _).mono ?_; rintro e w' ⟨rfl, x, rfl⟩))
    refine wp_region_ext (by kernel_rfl) (by kernel_rfl) ?_
    repeat (go_big_quiet_step ((first | (go_at_call 90; exact Calls_ext (magMask64 _)) | (go_at_call 85; exact Calls_ext (expMask64 _)))))
    refine wpQuiet_nil ?_
    rintro _ ⟨x, rfl⟩
    go_wp2
    go_ret
    exact ⟨rfl, Gr.of (by repeat (first | exact Gr.refl _ | refine Gr.alloc ?_ _ | refine Gr.ext ?_ _ | refine Gr.drew ?_))⟩
  all_goals
    go_enter Tryz.func30, Tryz.ntmps30
    go_wp2_with (first | (go_at_call 90; refine (magMask64 _).mono ?_; rintro e w' ⟨rfl, x, rfl⟩) | (go_at_call 158; refine (hiddenBit64 _).mono ?_; rintro e w' ⟨rfl, x, rfl⟩) | (go_at_call 85; refine (expMask64 _).mono ?_; rintro e w' ⟨rfl, x, rfl⟩))
    refine wp_region_ext (by kernel_rfl) (by kernel_rfl) ?_
    repeat (go_big_quiet_step ((first | (go_at_call 90; exact Calls_ext (magMask64 _)) | (go_at_call 85; exact Calls_ext (expMask64 _)))))
    refine wpQuiet_nil ?_
    rintro _ ⟨x, rfl⟩
    go_wp2
    go_ret
    exact ⟨rfl, Gr.of (by repeat (first | exact Gr.refl _ | refine Gr.alloc ?_ _ | refine Gr.ext ?_ _ | refine Gr.drew ?_))⟩

end Go.Proofs.Qxb6500680aGreatDoor

