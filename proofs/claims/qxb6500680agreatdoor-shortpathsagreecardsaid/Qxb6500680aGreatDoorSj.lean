import Derived.Test.Qxb6500680aGreatDoorSh
namespace Go.Proofs.Qxb6500680aGreatDoor
open Go.RowKit Go.BigFrame
set_option linter.unusedSimpArgs false
set_option linter.unusedSectionVars false
attribute [local go_sem] ext_cell_if ext_frozen_if alloc_cell_if alloc_frozen_if ext_size ext_ext calmOp calmAt
theorem w32_lt (r : Nat) (h : r < 2 * 2147483648) : IntKind.u32.wrap (r : Int) = (r : Int) := by rw [IntKind.wrap_u32]; omega
theorem u_of32 (a : Nat) (h : (a : Int) < 4294967296) : U64 a := by unfold U64; omega
theorem u_of64 (a : Nat) (h : (a : Int) < 18446744073709551616) : U64 a := by unfold U64; omega
set_option maxRecDepth 100000 in
theorem s112 (a b : Nat) (ha : (a : Int) < 4294967296) (hb : (b : Int) < 4294967296) : ∃ (r : Nat) (fl : Int), (∀ w, Calls Tryz.prog 44 #[.agg #[.int .u64 32, .int .u64 8, .int .u64 23], .int .u64 a, .int .u64 b, .int .u8 0] w (Rt (.tuple #[.int .u64 r, .int .u8 fl]) w)) ∧ ∀ w, Glob w → Calls Tryz.prog 112 #[.int .u32 a, .int .u32 b] w (Rt (.tuple #[.int .u32 r, .int .u8 fl]) w) := by
  obtain ⟨r, fl, hr, CC⟩ := fk32.mul a b (u_of32 a ha) (u_of32 b hb)
  refine ⟨r, fl, CC, fun w hg => ?_⟩
  have C44 : Hid (∀ w, Calls Tryz.prog 44 #[.agg #[.int .u64 32, .int .u64 8, .int .u64 23], .int .u64 a, .int .u64 b, .int .u8 0] w (Rt (.tuple #[.int .u64 r, .int .u8 fl]) w)) := hidden CC
  have hw := w32_lt r hr
  obtain ⟨a0, a1, a2, b0, b1, b2⟩ := hg
  clear CC hr b0 b1 b2
  go_enter Tryz.func112, Tryz.ntmps112
  go_wp2_with (first | (go_at_call 44; (with_reducible refine (C44.out _).mono ?_); rintro _ _ ⟨rfl, x44, rfl⟩))
  go_ret2
  exact ⟨by simp [hw], Gr.of (by repeat (first | exact Gr.refl _ | refine Gr.alloc ?_ _ | refine Gr.ext ?_ _ | refine Gr.drew ?_))⟩
set_option maxRecDepth 100000 in
theorem s132 (a b : Nat) (ha : (a : Int) < 18446744073709551616) (hb : (b : Int) < 18446744073709551616) : ∃ (r : Nat) (fl : Int), (∀ w, Calls Tryz.prog 44 #[.agg #[.int .u64 64, .int .u64 11, .int .u64 52], .int .u64 a, .int .u64 b, .int .u8 0] w (Rt (.tuple #[.int .u64 r, .int .u8 fl]) w)) ∧ ∀ w, Glob w → Calls Tryz.prog 132 #[.int .u64 a, .int .u64 b] w (Rt (.tuple #[.int .u64 r, .int .u8 fl]) w) := by
  obtain ⟨r, fl, hr, CC⟩ := fk64.mul a b (u_of64 a ha) (u_of64 b hb)
  refine ⟨r, fl, CC, fun w hg => ?_⟩
  have C44 : Hid (∀ w, Calls Tryz.prog 44 #[.agg #[.int .u64 64, .int .u64 11, .int .u64 52], .int .u64 a, .int .u64 b, .int .u8 0] w (Rt (.tuple #[.int .u64 r, .int .u8 fl]) w)) := hidden CC
  obtain ⟨a0, a1, a2, b0, b1, b2⟩ := hg
  clear CC hr a0 a1 a2
  go_enter Tryz.func132, Tryz.ntmps132
  go_wp2_with (first | (go_at_call 44; (with_reducible refine (C44.out _).mono ?_); rintro _ _ ⟨rfl, x44, rfl⟩))
  go_ret2
  exact ⟨by simp, Gr.of (by repeat (first | exact Gr.refl _ | refine Gr.alloc ?_ _ | refine Gr.ext ?_ _ | refine Gr.drew ?_))⟩
set_option maxRecDepth 100000 in
theorem s113 (a b : Nat) (ha : (a : Int) < 4294967296) (hb : (b : Int) < 4294967296) : ∃ (r : Nat) (fl : Int), (∀ w, Calls Tryz.prog 45 #[.agg #[.int .u64 32, .int .u64 8, .int .u64 23], .int .u64 a, .int .u64 b, .int .u8 0] w (Rt (.tuple #[.int .u64 r, .int .u8 fl]) w)) ∧ ∀ w, Glob w → Calls Tryz.prog 113 #[.int .u32 a, .int .u32 b] w (Rt (.tuple #[.int .u32 r, .int .u8 fl]) w) := by
  obtain ⟨r, fl, hr, CC⟩ := fk32.div a b (u_of32 a ha) (u_of32 b hb)
  refine ⟨r, fl, CC, fun w hg => ?_⟩
  have C45 : Hid (∀ w, Calls Tryz.prog 45 #[.agg #[.int .u64 32, .int .u64 8, .int .u64 23], .int .u64 a, .int .u64 b, .int .u8 0] w (Rt (.tuple #[.int .u64 r, .int .u8 fl]) w)) := hidden CC
  have hw := w32_lt r hr
  obtain ⟨a0, a1, a2, b0, b1, b2⟩ := hg
  clear CC hr b0 b1 b2
  go_enter Tryz.func113, Tryz.ntmps113
  go_wp2_with (first | (go_at_call 45; (with_reducible refine (C45.out _).mono ?_); rintro _ _ ⟨rfl, x45, rfl⟩))
  go_ret2
  exact ⟨by simp [hw], Gr.of (by repeat (first | exact Gr.refl _ | refine Gr.alloc ?_ _ | refine Gr.ext ?_ _ | refine Gr.drew ?_))⟩
set_option maxRecDepth 100000 in
theorem s133 (a b : Nat) (ha : (a : Int) < 18446744073709551616) (hb : (b : Int) < 18446744073709551616) : ∃ (r : Nat) (fl : Int), (∀ w, Calls Tryz.prog 45 #[.agg #[.int .u64 64, .int .u64 11, .int .u64 52], .int .u64 a, .int .u64 b, .int .u8 0] w (Rt (.tuple #[.int .u64 r, .int .u8 fl]) w)) ∧ ∀ w, Glob w → Calls Tryz.prog 133 #[.int .u64 a, .int .u64 b] w (Rt (.tuple #[.int .u64 r, .int .u8 fl]) w) := by
  obtain ⟨r, fl, hr, CC⟩ := fk64.div a b (u_of64 a ha) (u_of64 b hb)
  refine ⟨r, fl, CC, fun w hg => ?_⟩
  have C45 : Hid (∀ w, Calls Tryz.prog 45 #[.agg #[.int .u64 64, .int .u64 11, .int .u64 52], .int .u64 a, .int .u64 b, .int .u8 0] w (Rt (.tuple #[.int .u64 r, .int .u8 fl]) w)) := hidden CC
  obtain ⟨a0, a1, a2, b0, b1, b2⟩ := hg
  clear CC hr a0 a1 a2
  go_enter Tryz.func133, Tryz.ntmps133
  go_wp2_with (first | (go_at_call 45; (with_reducible refine (C45.out _).mono ?_); rintro _ _ ⟨rfl, x45, rfl⟩))
  go_ret2
  exact ⟨by simp, Gr.of (by repeat (first | exact Gr.refl _ | refine Gr.alloc ?_ _ | refine Gr.ext ?_ _ | refine Gr.drew ?_))⟩
set_option maxRecDepth 100000 in
theorem s114 (a b : Nat) (ha : (a : Int) < 4294967296) (hb : (b : Int) < 4294967296) : ∃ (r : Nat) (fl : Int), (∀ w, Calls Tryz.prog 46 #[.agg #[.int .u64 32, .int .u64 8, .int .u64 23], .int .u64 a, .int .u64 b, .int .u8 0] w (Rt (.tuple #[.int .u64 r, .int .u8 fl]) w)) ∧ ∀ w, Glob w → Calls Tryz.prog 114 #[.int .u32 a, .int .u32 b] w (Rt (.tuple #[.int .u32 r, .int .u8 fl]) w) := by
  obtain ⟨r, fl, hr, CC⟩ := fk32.add a b (u_of32 a ha) (u_of32 b hb)
  refine ⟨r, fl, CC, fun w hg => ?_⟩
  have C46 : Hid (∀ w, Calls Tryz.prog 46 #[.agg #[.int .u64 32, .int .u64 8, .int .u64 23], .int .u64 a, .int .u64 b, .int .u8 0] w (Rt (.tuple #[.int .u64 r, .int .u8 fl]) w)) := hidden CC
  have hw := w32_lt r hr
  obtain ⟨a0, a1, a2, b0, b1, b2⟩ := hg
  clear CC hr b0 b1 b2
  go_enter Tryz.func114, Tryz.ntmps114
  go_wp2_with (first | (go_at_call 46; (with_reducible refine (C46.out _).mono ?_); rintro _ _ ⟨rfl, x46, rfl⟩))
  go_ret2
  exact ⟨by simp [hw], Gr.of (by repeat (first | exact Gr.refl _ | refine Gr.alloc ?_ _ | refine Gr.ext ?_ _ | refine Gr.drew ?_))⟩
set_option maxRecDepth 100000 in
theorem s134 (a b : Nat) (ha : (a : Int) < 18446744073709551616) (hb : (b : Int) < 18446744073709551616) : ∃ (r : Nat) (fl : Int), (∀ w, Calls Tryz.prog 46 #[.agg #[.int .u64 64, .int .u64 11, .int .u64 52], .int .u64 a, .int .u64 b, .int .u8 0] w (Rt (.tuple #[.int .u64 r, .int .u8 fl]) w)) ∧ ∀ w, Glob w → Calls Tryz.prog 134 #[.int .u64 a, .int .u64 b] w (Rt (.tuple #[.int .u64 r, .int .u8 fl]) w) := by
  obtain ⟨r, fl, hr, CC⟩ := fk64.add a b (u_of64 a ha) (u_of64 b hb)
  refine ⟨r, fl, CC, fun w hg => ?_⟩
  have C46 : Hid (∀ w, Calls Tryz.prog 46 #[.agg #[.int .u64 64, .int .u64 11, .int .u64 52], .int .u64 a, .int .u64 b, .int .u8 0] w (Rt (.tuple #[.int .u64 r, .int .u8 fl]) w)) := hidden CC
  obtain ⟨a0, a1, a2, b0, b1, b2⟩ := hg
  clear CC hr a0 a1 a2
  go_enter Tryz.func134, Tryz.ntmps134
  go_wp2_with (first | (go_at_call 46; (with_reducible refine (C46.out _).mono ?_); rintro _ _ ⟨rfl, x46, rfl⟩))
  go_ret2
  exact ⟨by simp, Gr.of (by repeat (first | exact Gr.refl _ | refine Gr.alloc ?_ _ | refine Gr.ext ?_ _ | refine Gr.drew ?_))⟩
set_option maxRecDepth 100000 in
theorem s115 (a b : Nat) (ha : (a : Int) < 4294967296) (hb : (b : Int) < 4294967296) : ∃ (r : Nat) (fl : Int), (∀ w, Calls Tryz.prog 47 #[.agg #[.int .u64 32, .int .u64 8, .int .u64 23], .int .u64 a, .int .u64 b, .int .u8 0] w (Rt (.tuple #[.int .u64 r, .int .u8 fl]) w)) ∧ ∀ w, Glob w → Calls Tryz.prog 115 #[.int .u32 a, .int .u32 b] w (Rt (.tuple #[.int .u32 r, .int .u8 fl]) w) := by
  obtain ⟨r, fl, hr, CC⟩ := fk32.sub a b (u_of32 a ha) (u_of32 b hb)
  refine ⟨r, fl, CC, fun w hg => ?_⟩
  have C47 : Hid (∀ w, Calls Tryz.prog 47 #[.agg #[.int .u64 32, .int .u64 8, .int .u64 23], .int .u64 a, .int .u64 b, .int .u8 0] w (Rt (.tuple #[.int .u64 r, .int .u8 fl]) w)) := hidden CC
  have hw := w32_lt r hr
  obtain ⟨a0, a1, a2, b0, b1, b2⟩ := hg
  clear CC hr b0 b1 b2
  go_enter Tryz.func115, Tryz.ntmps115
  go_wp2_with (first | (go_at_call 47; (with_reducible refine (C47.out _).mono ?_); rintro _ _ ⟨rfl, x47, rfl⟩))
  go_ret2
  exact ⟨by simp [hw], Gr.of (by repeat (first | exact Gr.refl _ | refine Gr.alloc ?_ _ | refine Gr.ext ?_ _ | refine Gr.drew ?_))⟩
set_option maxRecDepth 100000 in
theorem s135 (a b : Nat) (ha : (a : Int) < 18446744073709551616) (hb : (b : Int) < 18446744073709551616) : ∃ (r : Nat) (fl : Int), (∀ w, Calls Tryz.prog 47 #[.agg #[.int .u64 64, .int .u64 11, .int .u64 52], .int .u64 a, .int .u64 b, .int .u8 0] w (Rt (.tuple #[.int .u64 r, .int .u8 fl]) w)) ∧ ∀ w, Glob w → Calls Tryz.prog 135 #[.int .u64 a, .int .u64 b] w (Rt (.tuple #[.int .u64 r, .int .u8 fl]) w) := by
  obtain ⟨r, fl, hr, CC⟩ := fk64.sub a b (u_of64 a ha) (u_of64 b hb)
  refine ⟨r, fl, CC, fun w hg => ?_⟩
  have C47 : Hid (∀ w, Calls Tryz.prog 47 #[.agg #[.int .u64 64, .int .u64 11, .int .u64 52], .int .u64 a, .int .u64 b, .int .u8 0] w (Rt (.tuple #[.int .u64 r, .int .u8 fl]) w)) := hidden CC
  obtain ⟨a0, a1, a2, b0, b1, b2⟩ := hg
  clear CC hr a0 a1 a2
  go_enter Tryz.func135, Tryz.ntmps135
  go_wp2_with (first | (go_at_call 47; (with_reducible refine (C47.out _).mono ?_); rintro _ _ ⟨rfl, x47, rfl⟩))
  go_ret2
  exact ⟨by simp, Gr.of (by repeat (first | exact Gr.refl _ | refine Gr.alloc ?_ _ | refine Gr.ext ?_ _ | refine Gr.drew ?_))⟩
set_option maxRecDepth 100000 in
theorem s116 (a : Nat) (ha : (a : Int) < 4294967296) : ∃ (r : Nat), (∀ w, Calls Tryz.prog 53 #[.agg #[.int .u64 32, .int .u64 8, .int .u64 23], .int .u64 a] w (Rt (.int .u64 r) w)) ∧ ∀ w, Glob w → Calls Tryz.prog 116 #[.int .u32 a] w (Rt (.int .u32 r) w) := by
  obtain ⟨r, hr, CC⟩ := fk32.nextUp a (u_of32 a ha)
  refine ⟨r, CC, fun w hg => ?_⟩
  have C53 : Hid (∀ w, Calls Tryz.prog 53 #[.agg #[.int .u64 32, .int .u64 8, .int .u64 23], .int .u64 a] w (Rt (.int .u64 r) w)) := hidden CC
  have hw := w32_lt r hr
  obtain ⟨a0, a1, a2, b0, b1, b2⟩ := hg
  clear CC hr b0 b1 b2
  go_enter Tryz.func116, Tryz.ntmps116
  go_wp2_with (first | (go_at_call 53; (with_reducible refine (C53.out _).mono ?_); rintro _ _ ⟨rfl, x53, rfl⟩))
  go_ret
  exact ⟨by simp [hw], Gr.of (by repeat (first | exact Gr.refl _ | refine Gr.alloc ?_ _ | refine Gr.ext ?_ _ | refine Gr.drew ?_))⟩
set_option maxRecDepth 100000 in
theorem s117 (a : Nat) (ha : (a : Int) < 4294967296) : ∃ (r : Nat), (∀ w, Calls Tryz.prog 56 #[.agg #[.int .u64 32, .int .u64 8, .int .u64 23], .int .u64 a] w (Rt (.int .u64 r) w)) ∧ ∀ w, Glob w → Calls Tryz.prog 117 #[.int .u32 a] w (Rt (.int .u32 r) w) := by
  obtain ⟨r, hr, CC⟩ := fk32.nextDown a (u_of32 a ha)
  refine ⟨r, CC, fun w hg => ?_⟩
  have C56 : Hid (∀ w, Calls Tryz.prog 56 #[.agg #[.int .u64 32, .int .u64 8, .int .u64 23], .int .u64 a] w (Rt (.int .u64 r) w)) := hidden CC
  have hw := w32_lt r hr
  obtain ⟨a0, a1, a2, b0, b1, b2⟩ := hg
  clear CC hr b0 b1 b2
  go_enter Tryz.func117, Tryz.ntmps117
  go_wp2_with (first | (go_at_call 56; (with_reducible refine (C56.out _).mono ?_); rintro _ _ ⟨rfl, x56, rfl⟩))
  go_ret
  exact ⟨by simp [hw], Gr.of (by repeat (first | exact Gr.refl _ | refine Gr.alloc ?_ _ | refine Gr.ext ?_ _ | refine Gr.drew ?_))⟩
set_option maxRecDepth 100000 in
theorem s136 (a : Nat) (ha : (a : Int) < 18446744073709551616) : ∃ (r : Nat), (∀ w, Calls Tryz.prog 53 #[.agg #[.int .u64 64, .int .u64 11, .int .u64 52], .int .u64 a] w (Rt (.int .u64 r) w)) ∧ ∀ w, Glob w → Calls Tryz.prog 136 #[.int .u64 a] w (Rt (.int .u64 r) w) := by
  obtain ⟨r, hr, CC⟩ := fk64.nextUp a (u_of64 a ha)
  refine ⟨r, CC, fun w hg => ?_⟩
  have C53 : Hid (∀ w, Calls Tryz.prog 53 #[.agg #[.int .u64 64, .int .u64 11, .int .u64 52], .int .u64 a] w (Rt (.int .u64 r) w)) := hidden CC
  obtain ⟨a0, a1, a2, b0, b1, b2⟩ := hg
  clear CC hr a0 a1 a2
  go_enter Tryz.func136, Tryz.ntmps136
  go_wp2_with (first | (go_at_call 53; (with_reducible refine (C53.out _).mono ?_); rintro _ _ ⟨rfl, x53, rfl⟩))
  go_ret
  exact ⟨by simp, Gr.of (by repeat (first | exact Gr.refl _ | refine Gr.alloc ?_ _ | refine Gr.ext ?_ _ | refine Gr.drew ?_))⟩
set_option maxRecDepth 100000 in
theorem s137 (a : Nat) (ha : (a : Int) < 18446744073709551616) : ∃ (r : Nat), (∀ w, Calls Tryz.prog 56 #[.agg #[.int .u64 64, .int .u64 11, .int .u64 52], .int .u64 a] w (Rt (.int .u64 r) w)) ∧ ∀ w, Glob w → Calls Tryz.prog 137 #[.int .u64 a] w (Rt (.int .u64 r) w) := by
  obtain ⟨r, hr, CC⟩ := fk64.nextDown a (u_of64 a ha)
  refine ⟨r, CC, fun w hg => ?_⟩
  have C56 : Hid (∀ w, Calls Tryz.prog 56 #[.agg #[.int .u64 64, .int .u64 11, .int .u64 52], .int .u64 a] w (Rt (.int .u64 r) w)) := hidden CC
  obtain ⟨a0, a1, a2, b0, b1, b2⟩ := hg
  clear CC hr a0 a1 a2
  go_enter Tryz.func137, Tryz.ntmps137
  go_wp2_with (first | (go_at_call 56; (with_reducible refine (C56.out _).mono ?_); rintro _ _ ⟨rfl, x56, rfl⟩))
  go_ret
  exact ⟨by simp, Gr.of (by repeat (first | exact Gr.refl _ | refine Gr.alloc ?_ _ | refine Gr.ext ?_ _ | refine Gr.drew ?_))⟩
set_option maxRecDepth 100000 in
theorem s118 (a b : Nat) (ha : (a : Int) < 4294967296) (hb : (b : Int) < 4294967296) : ∃ (r : Int), (∀ w, Calls Tryz.prog 57 #[.agg #[.int .u64 32, .int .u64 8, .int .u64 23], .int .u64 a, .int .u64 b] w (Rt (.int .i8 r) w)) ∧ ∀ w, Glob w → Calls Tryz.prog 118 #[.int .u32 a, .int .u32 b] w (Rt (.int .i8 r) w) := by
  have CC := fun w => fk32.compare a b (u_of32 a ha) (u_of32 b hb) w
  generalize cmpN 2139095040 2147483648 a b = r at *
  refine ⟨r, CC, fun w hg => ?_⟩
  have C57 : Hid (∀ w, Calls Tryz.prog 57 #[.agg #[.int .u64 32, .int .u64 8, .int .u64 23], .int .u64 a, .int .u64 b] w (Rt (.int .i8 r) w)) := hidden CC
  obtain ⟨a0, a1, a2, b0, b1, b2⟩ := hg
  clear CC b0 b1 b2
  go_enter Tryz.func118, Tryz.ntmps118
  go_wp2_with (first | (go_at_call 57; (with_reducible refine (C57.out _).mono ?_); rintro _ _ ⟨rfl, x57, rfl⟩))
  go_ret
  exact ⟨by simp, Gr.of (by repeat (first | exact Gr.refl _ | refine Gr.alloc ?_ _ | refine Gr.ext ?_ _ | refine Gr.drew ?_))⟩
set_option maxRecDepth 100000 in
theorem s138 (a b : Nat) (ha : (a : Int) < 18446744073709551616) (hb : (b : Int) < 18446744073709551616) : ∃ (r : Int), (∀ w, Calls Tryz.prog 57 #[.agg #[.int .u64 64, .int .u64 11, .int .u64 52], .int .u64 a, .int .u64 b] w (Rt (.int .i8 r) w)) ∧ ∀ w, Glob w → Calls Tryz.prog 138 #[.int .u64 a, .int .u64 b] w (Rt (.int .i8 r) w) := by
  have CC := fun w => fk64.compare a b (u_of64 a ha) (u_of64 b hb) w
  generalize cmpN 9218868437227405312 9223372036854775808 a b = r at *
  refine ⟨r, CC, fun w hg => ?_⟩
  have C57 : Hid (∀ w, Calls Tryz.prog 57 #[.agg #[.int .u64 64, .int .u64 11, .int .u64 52], .int .u64 a, .int .u64 b] w (Rt (.int .i8 r) w)) := hidden CC
  obtain ⟨a0, a1, a2, b0, b1, b2⟩ := hg
  clear CC a0 a1 a2
  go_enter Tryz.func138, Tryz.ntmps138
  go_wp2_with (first | (go_at_call 57; (with_reducible refine (C57.out _).mono ?_); rintro _ _ ⟨rfl, x57, rfl⟩))
  go_ret
  exact ⟨by simp, Gr.of (by repeat (first | exact Gr.refl _ | refine Gr.alloc ?_ _ | refine Gr.ext ?_ _ | refine Gr.drew ?_))⟩
set_option maxRecDepth 100000 in
theorem s127 (n : Int) (h0 : -9223372036854775808 ≤ n) (h1 : n ≤ 9223372036854775807) : ∃ (r1 r2 : Int), (∀ w, Calls Tryz.prog 48 #[.agg #[.int .u64 64, .int .u64 11, .int .u64 52], .int .i64 n, .int .u8 0] w (Rt (.tuple #[.int .u64 r1, .int .u8 r2]) w)) ∧ ∀ w, Glob w → Calls Tryz.prog 127 #[.int .i64 n] w (Rt (.tuple #[.int .u64 r1, .int .u8 r2]) w) := by
  have CC := fun w => fk64.fromInt n h0 h1 w
  generalize rpN 52 1023 9223372036854775808 9218868437227405312 4503599627370496 (decide (n < 0)) 0 0 n.natAbs false = R at *
  obtain ⟨r1, r2⟩ := R
  dsimp only at CC
  refine ⟨_, _, CC, fun w hg => ?_⟩
  have C48 : Hid (∀ w, Calls Tryz.prog 48 #[.agg #[.int .u64 64, .int .u64 11, .int .u64 52], .int .i64 n, .int .u8 0] w (Rt (.tuple #[.int .u64 r1, .int .u8 r2]) w)) := hidden CC
  obtain ⟨a0, a1, a2, b0, b1, b2⟩ := hg
  clear CC h0 h1 a0 a1 a2
  go_enter Tryz.func127, Tryz.ntmps127
  go_wp2_with (first | (go_at_call 48; (with_reducible refine (C48.out _).mono ?_); rintro _ _ ⟨rfl, x48, rfl⟩))
  go_ret2
  exact ⟨by simp, Gr.of (by repeat (first | exact Gr.refl _ | refine Gr.alloc ?_ _ | refine Gr.ext ?_ _ | refine Gr.drew ?_))⟩
set_option maxRecDepth 100000 in
theorem s129 (a b : Nat) (ha : (a : Int) < 18446744073709551616) (hb : (b : Int) < 18446744073709551616) : ∃ (r1 r2 : Int), (∀ w, Calls Tryz.prog 36 #[.agg #[.int .u64 64, .int .u64 11, .int .u64 52], .int .u64 a, .int .u64 b] w (Rt (.tuple #[.int .i32 r1, .int .u8 r2]) w)) ∧ ∀ w, Glob w → Calls Tryz.prog 129 #[.int .u64 a, .int .u64 b] w (Rt (.tuple #[.int .i32 r1, .int .u8 r2]) w) := by
  have CC := fun w => fk64.quo24 a b (u_of64 a ha) (u_of64 b hb) w
  generalize qtN 52 1023 9223372036854775808 9218868437227405312 4503599627370496 2047 a b = R at *
  obtain ⟨r1, r2⟩ := R
  dsimp only at CC
  refine ⟨_, _, CC, fun w hg => ?_⟩
  have C36 : Hid (∀ w, Calls Tryz.prog 36 #[.agg #[.int .u64 64, .int .u64 11, .int .u64 52], .int .u64 a, .int .u64 b] w (Rt (.tuple #[.int .i32 r1, .int .u8 r2]) w)) := hidden CC
  obtain ⟨a0, a1, a2, b0, b1, b2⟩ := hg
  clear CC ha hb a0 a1 a2
  go_enter Tryz.func129, Tryz.ntmps129
  go_wp2_with (first | (go_at_call 36; (with_reducible refine (C36.out _).mono ?_); rintro _ _ ⟨rfl, x36, rfl⟩))
  go_ret2
  exact ⟨by simp, Gr.of (by repeat (first | exact Gr.refl _ | refine Gr.alloc ?_ _ | refine Gr.ext ?_ _ | refine Gr.drew ?_))⟩
set_option maxRecDepth 100000 in
theorem s130 (a b : Nat) (ha : (a : Int) < 18446744073709551616) (hb : (b : Int) < 18446744073709551616) : ∃ (r1 r2 : Int), (∀ w, Calls Tryz.prog 109 #[.agg #[.int .u64 64, .int .u64 11, .int .u64 52], .int .u64 a, .int .u64 b] w (Rt (.tuple #[.int .i64 r1, .int .u8 r2]) w)) ∧ ∀ w, Glob w → Calls Tryz.prog 130 #[.int .u64 a, .int .u64 b] w (Rt (.tuple #[.int .i64 r1, .int .u8 r2]) w) := by
  have CC := fun w => fk64.ulpDiff a b (u_of64 a ha) (u_of64 b hb) w
  generalize ulpN 9218868437227405312 9223372036854775808 a b = R at *
  obtain ⟨r1, r2⟩ := R
  dsimp only at CC
  refine ⟨_, _, CC, fun w hg => ?_⟩
  have C109 : Hid (∀ w, Calls Tryz.prog 109 #[.agg #[.int .u64 64, .int .u64 11, .int .u64 52], .int .u64 a, .int .u64 b] w (Rt (.tuple #[.int .i64 r1, .int .u8 r2]) w)) := hidden CC
  obtain ⟨a0, a1, a2, b0, b1, b2⟩ := hg
  clear CC ha hb a0 a1 a2
  go_enter Tryz.func130, Tryz.ntmps130
  go_wp2_with (first | (go_at_call 109; (with_reducible refine (C109.out _).mono ?_); rintro _ _ ⟨rfl, x109, rfl⟩))
  go_ret2
  exact ⟨by simp, Gr.of (by repeat (first | exact Gr.refl _ | refine Gr.alloc ?_ _ | refine Gr.ext ?_ _ | refine Gr.drew ?_))⟩
set_option maxRecDepth 100000 in
theorem s131 (a : Nat) (n : Int) (ha : (a : Int) < 18446744073709551616) (h0 : -9223372036854775808 ≤ n) (h1 : n ≤ 9223372036854775807) : ∃ (r1 r2 : Int), (∀ w, Calls Tryz.prog 111 #[.agg #[.int .u64 64, .int .u64 11, .int .u64 52], .int .u64 a, .int .i64 n] w (Rt (.tuple #[.int .u64 r1, .int .u8 r2]) w)) ∧ ∀ w, Glob w → Calls Tryz.prog 131 #[.int .u64 a, .int .i64 n] w (Rt (.tuple #[.int .u64 r1, .int .u8 r2]) w) := by
  have CC := fun w => fk64.addUlps a n (u_of64 a ha) h0 h1 w
  generalize addN 9218868437227405312 9223372036854775808 a n = R at *
  obtain ⟨r1, r2⟩ := R
  dsimp only at CC
  refine ⟨_, _, CC, fun w hg => ?_⟩
  have C111 : Hid (∀ w, Calls Tryz.prog 111 #[.agg #[.int .u64 64, .int .u64 11, .int .u64 52], .int .u64 a, .int .i64 n] w (Rt (.tuple #[.int .u64 r1, .int .u8 r2]) w)) := hidden CC
  obtain ⟨a0, a1, a2, b0, b1, b2⟩ := hg
  clear CC ha h0 h1 a0 a1 a2
  go_enter Tryz.func131, Tryz.ntmps131
  go_wp2_with (first | (go_at_call 111; (with_reducible refine (C111.out _).mono ?_); rintro _ _ ⟨rfl, x111, rfl⟩))
  go_ret2
  exact ⟨by simp, Gr.of (by repeat (first | exact Gr.refl _ | refine Gr.alloc ?_ _ | refine Gr.ext ?_ _ | refine Gr.drew ?_))⟩
end Go.Proofs.Qxb6500680aGreatDoor
