import Derived.Test.Qxb6500680aGreatDoorSj
namespace Go.Proofs.Qxb6500680aGreatDoor
open Go.RowKit Go.BigFrame
set_option linter.unusedSimpArgs false
set_option linter.unusedSectionVars false
attribute [local go_sem] ext_cell_if ext_frozen_if alloc_cell_if alloc_frozen_if ext_size ext_ext calmOp calmAt
theorem n32 {a : Nat} (h : (a : Int) < 4294967296) : a < 4294967296 := by omega
theorem ad32 (a b : Nat) (ha : a < 4294967296) (hb : b < 4294967296) : bits .and .u32 (a : Int) (b : Int) = bits .and .u64 (a : Int) (b : Int) := by
  rw [u32_and_nat a b ha hb, u64_and_nat a b (by omega) (by omega)]
theorem or_32 (a b : Nat) (ha : a < 4294967296) (hb : b < 4294967296) : bits .or .u32 (a : Int) (b : Int) = bits .or .u64 (a : Int) (b : Int) := by
  rw [u32_or_nat a b ha hb, u64_or_nat a b (by omega) (by omega)]
theorem xr32 (a b : Nat) (ha : a < 4294967296) (hb : b < 4294967296) : bits .xor .u32 (a : Int) (b : Int) = ((a ^^^ b : Nat) : Int) := u32_xor_nat a b ha hb
theorem m32 (a : Nat) (ha : (a : Int) < 4294967296) : bits .and .u32 (a : Int) 2147483647 = ((a % 2147483648 : Nat) : Int) := (ad32 a 2147483647 (n32 ha) (by decide)).trans (fk32.aM a (u_of32 a ha))
theorem f32 (a : Nat) (ha : (a : Int) < 4294967296) : bits .and .u32 (a : Int) 8388607 = ((a % 8388608 : Nat) : Int) := (ad32 a 8388607 (n32 ha) (by decide)).trans (fk32.aF a (u_of32 a ha))
theorem e32 (a : Nat) (ha : (a : Int) < 4294967296) : bits .and .u32 (a : Int) 255 = ((a % 256 : Nat) : Int) := (ad32 a 255 (n32 ha) (by decide)).trans (fk32.aB a (u_of32 a ha))
theorem s32 (a : Nat) (ha : (a : Int) < 4294967296) : bits .and .u32 (a : Int) 2147483648 = ((a / 2147483648 % 2 * 2147483648 : Nat) : Int) := (ad32 a 2147483648 (n32 ha) (by decide)).trans (fk32.aS a (u_of32 a ha))
theorem g32 (a : Nat) (ha : (a : Int) < 4294967296) : (bits .and .u32 (a : Int) 2147483648 != 0) = sgn 2147483648 a := by
  rw [show bits .and .u32 (a : Int) 2147483648 = bits .and .u64 (a : Int) 2147483648 from ad32 a 2147483648 (n32 ha) (by decide)]
  exact fk32.sgn_ne a (u_of32 a ha)
theorem h32 (a : Nat) : (a : Int) / 8388608 = ((a / 8388608 : Nat) : Int) := by simp
theorem h64 (a : Nat) : (a : Int) / 4503599627370496 = ((a / 4503599627370496 : Nat) : Int) := by simp
set_option maxRecDepth 100000 in
theorem s102 (a : Nat) (ha : (a : Int) < 4294967296) : ∃ (r : Bool), (∀ w, Calls Tryz.prog 30 #[.agg #[.int .u64 32, .int .u64 8, .int .u64 23], .int .u64 a] w (Rt (.bool r) w)) ∧ ∀ w, Calls Tryz.prog 102 #[.int .u32 a] w (Rt (.bool r) w) := by
  refine ⟨decide (a % 2147483648 < 2139095040), fun w => fk32.isFinite a (u_of32 a ha) w, fun w => ?_⟩
  have e1 : bits .and .u32 (a : Int) 2147483647 = ((a % 2147483648 : Nat) : Int) := m32 a ha
  generalize a % 2147483648 = m at *
  clear ha
  go_enter Tryz.func102, Tryz.ntmps102
  go_wp2_with (fail)
  go_ret
  exact ⟨by simp; try omega, Gr.of (by repeat (first | exact Gr.refl _ | refine Gr.alloc ?_ _ | refine Gr.ext ?_ _ | refine Gr.drew ?_))⟩
set_option maxRecDepth 100000 in
theorem s103 (a : Nat) (ha : (a : Int) < 4294967296) : ∃ (r : Bool), (∀ w, Calls Tryz.prog 78 #[.agg #[.int .u64 32, .int .u64 8, .int .u64 23], .int .u64 a] w (Rt (.bool r) w)) ∧ ∀ w, Calls Tryz.prog 103 #[.int .u32 a] w (Rt (.bool r) w) := by
  refine ⟨decide (2139095040 < a % 2147483648), fun w => fk32.isNaN a (u_of32 a ha) w, fun w => ?_⟩
  have e1 : bits .and .u32 (a : Int) 2147483647 = ((a % 2147483648 : Nat) : Int) := m32 a ha
  generalize a % 2147483648 = m at *
  clear ha
  go_enter Tryz.func103, Tryz.ntmps103
  go_wp2_with (fail)
  go_ret
  exact ⟨by simp; try omega, Gr.of (by repeat (first | exact Gr.refl _ | refine Gr.alloc ?_ _ | refine Gr.ext ?_ _ | refine Gr.drew ?_))⟩
set_option maxRecDepth 100000 in
theorem s124 (a : Nat) (ha : (a : Int) < 18446744073709551616) : ∃ (r : Bool), (∀ w, Calls Tryz.prog 30 #[.agg #[.int .u64 64, .int .u64 11, .int .u64 52], .int .u64 a] w (Rt (.bool r) w)) ∧ ∀ w, Calls Tryz.prog 124 #[.int .u64 a] w (Rt (.bool r) w) := by
  refine ⟨decide (a % 9223372036854775808 < 9218868437227405312), fun w => fk64.isFinite a (u_of64 a ha) w, fun w => ?_⟩
  have e1 : bits .and .u64 (a : Int) 9223372036854775807 = ((a % 9223372036854775808 : Nat) : Int) := fk64.aM a (u_of64 a ha)
  generalize a % 9223372036854775808 = m at *
  clear ha
  go_enter Tryz.func124, Tryz.ntmps124
  go_wp2_with (fail)
  go_ret
  exact ⟨by simp; try omega, Gr.of (by repeat (first | exact Gr.refl _ | refine Gr.alloc ?_ _ | refine Gr.ext ?_ _ | refine Gr.drew ?_))⟩
set_option maxRecDepth 100000 in
theorem s125 (a : Nat) (ha : (a : Int) < 18446744073709551616) : ∃ (r : Bool), (∀ w, Calls Tryz.prog 78 #[.agg #[.int .u64 64, .int .u64 11, .int .u64 52], .int .u64 a] w (Rt (.bool r) w)) ∧ ∀ w, Calls Tryz.prog 125 #[.int .u64 a] w (Rt (.bool r) w) := by
  refine ⟨decide (9218868437227405312 < a % 9223372036854775808), fun w => fk64.isNaN a (u_of64 a ha) w, fun w => ?_⟩
  have e1 : bits .and .u64 (a : Int) 9223372036854775807 = ((a % 9223372036854775808 : Nat) : Int) := fk64.aM a (u_of64 a ha)
  generalize a % 9223372036854775808 = m at *
  clear ha
  go_enter Tryz.func125, Tryz.ntmps125
  go_wp2_with (fail)
  go_ret
  exact ⟨by simp; try omega, Gr.of (by repeat (first | exact Gr.refl _ | refine Gr.alloc ?_ _ | refine Gr.ext ?_ _ | refine Gr.drew ?_))⟩
set_option maxRecDepth 100000 in
theorem s99 (a : Nat) (ha : (a : Int) < 4294967296) (w : World) : Calls Tryz.prog 99 #[.int .u32 a] w (Rt (.tuple #[.bool (sgn 2147483648 a), .int .u32 (a / 8388608 % 256 : Nat), .int .u32 (a % 8388608 : Nat)]) w) := by
  have e1 := g32 a ha
  have e2 := h32 a
  have e3 := e32 (a / 8388608) (by omega)
  have e4 := f32 a ha
  generalize a / 8388608 % 256 = x at *
  generalize a / 8388608 = y at *
  generalize a % 8388608 = z at *
  generalize sgn 2147483648 a = b at *
  clear ha
  go_enter Tryz.func99, Tryz.ntmps99
  go_wp2_with (fail)
  go_ret3
  exact ⟨by simp, Gr.of (by repeat (first | exact Gr.refl _ | refine Gr.alloc ?_ _ | refine Gr.ext ?_ _ | refine Gr.drew ?_))⟩
set_option maxRecDepth 100000 in
theorem s121 (a : Nat) (ha : (a : Int) < 18446744073709551616) (w : World) : Calls Tryz.prog 121 #[.int .u64 a] w (Rt (.tuple #[.bool (sgn 9223372036854775808 a), .int .u32 (a / 4503599627370496 % 2048 : Nat), .int .u64 (a % 4503599627370496 : Nat)]) w) := by
  have e1 : (bits .and .u64 (a : Int) 9223372036854775808 != 0) = sgn 9223372036854775808 a := fk64.sgn_ne a (u_of64 a ha)
  have e2 := h64 a
  have e3 : bits .and .u64 ((a / 4503599627370496 : Nat) : Int) 2047 = ((a / 4503599627370496 % 2048 : Nat) : Int) := fk64.aB (a / 4503599627370496) (by unfold U64; omega)
  have e4 : bits .and .u64 (a : Int) 4503599627370495 = ((a % 4503599627370496 : Nat) : Int) := fk64.aF a (u_of64 a ha)
  have e5 : IntKind.u32.wrap ((a / 4503599627370496 % 2048 : Nat) : Int) = ((a / 4503599627370496 % 2048 : Nat) : Int) := by rw [IntKind.wrap_u32]; omega
  generalize a / 4503599627370496 % 2048 = x at *
  generalize a / 4503599627370496 = y at *
  generalize a % 4503599627370496 = z at *
  generalize sgn 9223372036854775808 a = b at *
  clear ha
  go_enter Tryz.func121, Tryz.ntmps121
  go_wp2_with (fail)
  go_ret3
  exact ⟨by simp [e5], Gr.of (by repeat (first | exact Gr.refl _ | refine Gr.alloc ?_ _ | refine Gr.ext ?_ _ | refine Gr.drew ?_))⟩
end Go.Proofs.Qxb6500680aGreatDoor
