import Derived.Test.Qxb6500680aGreatDoorUc
namespace Go.Proofs.Qxb6500680aGreatDoor
open Go.RowKit Go.BigFrame
set_option linter.unusedSimpArgs false
set_option linter.unusedSectionVars false
attribute [local go_sem] ext_cell_if ext_frozen_if alloc_cell_if alloc_frozen_if ext_size ext_ext calmOp calmAt
theorem trN32 (a : Nat) (M : Int) (hM : ((a % 2147483648 : Nat) : Int) = M) : truncN 23 127 2147483648 8388608 2139095040 a = if M < 1065353216 then (0, 0) else if 1266679808 ≤ M then (if 2139095040 < M then (0, 2) else (0, 1)) else (if sgn 2147483648 a then -(((8388608 + a % 8388608) / 2 ^ (150 - a % 2147483648 / 8388608) : Nat) : Int) else (((8388608 + a % 8388608) / 2 ^ (150 - a % 2147483648 / 8388608) : Nat) : Int), 0) := by
  unfold truncN
  by_cases c1 : M < 1065353216
  · rw [if_neg (show ¬ (2139095040 < a % 2147483648) by omega), if_pos (show a % 2147483648 / 8388608 < 127 by omega), if_pos c1]
  by_cases c2 : 2139095040 < M
  · rw [if_pos (show 2139095040 < a % 2147483648 by omega), if_neg c1, if_pos (show 1266679808 ≤ M by omega), if_pos c2]
  rw [if_neg (show ¬ (2139095040 < a % 2147483648) by omega), if_neg (show ¬ (a % 2147483648 / 8388608 < 127) by omega), if_neg c1]
  by_cases c3 : 1266679808 ≤ M
  · rw [if_pos (show 127 + 24 ≤ a % 2147483648 / 8388608 by omega), if_pos c3, if_neg c2]
  · rw [if_neg (show ¬ (127 + 24 ≤ a % 2147483648 / 8388608) by omega), if_neg c3]
set_option maxRecDepth 100000 in
theorem s104 (a : Nat) (ha : (a : Int) < 4294967296) : ∃ (r1 r2 : Int), (∀ w, Calls Tryz.prog 59 #[.agg #[.int .u64 32, .int .u64 8, .int .u64 23], .int .u64 a] w (Rt (.tuple #[.int .i32 r1, .int .u8 r2]) w)) ∧ ∀ w, Calls Tryz.prog 104 #[.int .u32 a] w (Rt (.tuple #[.int .i32 r1, .int .u8 r2]) w) := by
  refine ⟨_, _, fun w => fk32.trunc24 a (u_of32 a ha) (by decide) w, fun w => ?_⟩
  have hV := fk32.truncN_bd (by decide) a
  have e1 : bits .and .u32 (a : Int) 2147483647 = ((a % 2147483648 : Nat) : Int) := m32 a ha
  have e2 : bits .and .u32 ((a % 2147483648 : Nat) : Int) 8388607 = ((a % 2147483648 % 8388608 : Nat) : Int) := f32 (a % 2147483648) (by omega)
  rw [show a % 2147483648 % 8388608 = a % 8388608 by omega] at e2
  have e3 : bits .or .u32 ((a % 8388608 : Nat) : Int) 8388608 = ((8388608 + a % 8388608 : Nat) : Int) := (or_32 (a % 8388608) 8388608 (by omega) (by decide)).trans (fk32.oH (a % 8388608) (by omega))
  have e4 : (bits .and .u32 (a : Int) 2147483648 != 0) = sgn 2147483648 a := g32 a ha
  have e5 : ((a % 2147483648 : Nat) : Int) / 8388608 = ((a % 2147483648 / 8388608 : Nat) : Int) := by omega
  have hq : a % 2147483648 / 8388608 ≤ 255 := by omega
  obtain ⟨M, hM⟩ : ∃ M : Int, ((a % 2147483648 : Nat) : Int) = M := ⟨_, rfl⟩
  have hR := trN32 a M hM
  have hqM : 8388608 * (a % 2147483648 / 8388608) ≤ a % 2147483648 ∧ a % 2147483648 < 8388608 * (a % 2147483648 / 8388608) + 8388608 := by omega
  have hMi : (8388608 : Int) * ((a % 2147483648 / 8388608 : Nat) : Int) ≤ M ∧ M < 8388608 * ((a % 2147483648 / 8388608 : Nat) : Int) + 8388608 := by omega
  rw [hM] at e1 e2 e5
  clear hqM hM
  generalize truncN 23 127 2147483648 8388608 2139095040 a = R at *
  generalize a % 2147483648 / 8388608 = q at *
  generalize 8388608 + a % 8388608 = G at *
  generalize a % 8388608 = fr at *
  generalize sgn 2147483648 a = sg at *
  by_cases c1 : M < 1065353216
  · rw [if_pos c1] at hR
    subst hR
    clear e2 e3 e4 e5 hq hMi hV ha
    go_enter Tryz.func104, Tryz.ntmps104
    go_wp2_with (fail)
    go_ret2
    exact ⟨by simp, Gr.of (by repeat (first | exact Gr.refl _ | refine Gr.alloc ?_ _ | refine Gr.ext ?_ _ | refine Gr.drew ?_))⟩
  rw [if_neg c1] at hR
  by_cases c2 : 1266679808 ≤ M
  · rw [if_pos c2] at hR
    by_cases c3 : 2139095040 < M
    · rw [if_pos c3] at hR
      subst hR
      clear e2 e3 e4 e5 hq hMi hV ha
      go_enter Tryz.func104, Tryz.ntmps104
      go_wp2_with (fail)
      go_ret2
      exact ⟨by simp, Gr.of (by repeat (first | exact Gr.refl _ | refine Gr.alloc ?_ _ | refine Gr.ext ?_ _ | refine Gr.drew ?_))⟩
    · rw [if_neg c3] at hR
      subst hR
      clear e2 e3 e4 e5 hq hMi hV ha
      go_enter Tryz.func104, Tryz.ntmps104
      go_wp2_with (fail)
      go_ret2
      exact ⟨by simp, Gr.of (by repeat (first | exact Gr.refl _ | refine Gr.alloc ?_ _ | refine Gr.ext ?_ _ | refine Gr.drew ?_))⟩
  rw [if_neg c2] at hR
  obtain ⟨D, hD⟩ : ∃ D, 150 - q = D := ⟨_, rfl⟩
  rw [hD] at hR
  have e6 : (150 : Int) - (q : Int) = (D : Int) := by omega
  have hDb : D ≤ 23 := by omega
  have e7 : (G : Int) / 2 ^ min D 32 = ((G / 2 ^ D : Nat) : Int) := by rw [Nat.min_eq_left (by omega)]; simp
  have e8 : (G : Int) / 2 ^ D = ((G / 2 ^ D : Nat) : Int) := by simp
  generalize G / 2 ^ D = V at *
  clear hD ha hq hMi
  cases sg
  · rw [if_neg (by decide)] at hR
    subst hR
    dsimp only at hV
    have hw : IntKind.i32.wrap (V : Int) = (V : Int) := by rw [IntKind.wrap_i32]; omega
    clear hV
    go_enter Tryz.func104, Tryz.ntmps104
    go_wp2_with (fail)
    go_ret2
    exact ⟨by simp [hw], Gr.of (by repeat (first | exact Gr.refl _ | refine Gr.alloc ?_ _ | refine Gr.ext ?_ _ | refine Gr.drew ?_))⟩
  · rw [if_pos rfl] at hR
    subst hR
    dsimp only at hV
    have hw : IntKind.i32.wrap (V : Int) = (V : Int) := by rw [IntKind.wrap_i32]; omega
    have hw2 : IntKind.i32.wrap (-(V : Int)) = -(V : Int) := by rw [IntKind.wrap_i32]; omega
    clear hV
    go_enter Tryz.func104, Tryz.ntmps104
    go_wp2_with (fail)
    go_ret2
    exact ⟨by simp [hw, hw2], Gr.of (by repeat (first | exact Gr.refl _ | refine Gr.alloc ?_ _ | refine Gr.ext ?_ _ | refine Gr.drew ?_))⟩
theorem trN64 (a : Nat) (M : Int) (hM : ((a % 9223372036854775808 : Nat) : Int) = M) : truncN 52 1023 9223372036854775808 4503599627370496 9218868437227405312 a = if M < 4607182418800017408 then (0, 0) else if 4715268809856909312 ≤ M then (if 9218868437227405312 < M then (0, 2) else (0, 1)) else (if sgn 9223372036854775808 a then -(((4503599627370496 + a % 4503599627370496) / 2 ^ (1075 - a % 9223372036854775808 / 4503599627370496) : Nat) : Int) else (((4503599627370496 + a % 4503599627370496) / 2 ^ (1075 - a % 9223372036854775808 / 4503599627370496) : Nat) : Int), 0) := by
  unfold truncN
  by_cases c1 : M < 4607182418800017408
  · rw [if_neg (show ¬ (9218868437227405312 < a % 9223372036854775808) by omega), if_pos (show a % 9223372036854775808 / 4503599627370496 < 1023 by omega), if_pos c1]
  by_cases c2 : 9218868437227405312 < M
  · rw [if_pos (show 9218868437227405312 < a % 9223372036854775808 by omega), if_neg c1, if_pos (show 4715268809856909312 ≤ M by omega), if_pos c2]
  rw [if_neg (show ¬ (9218868437227405312 < a % 9223372036854775808) by omega), if_neg (show ¬ (a % 9223372036854775808 / 4503599627370496 < 1023) by omega), if_neg c1]
  by_cases c3 : 4715268809856909312 ≤ M
  · rw [if_pos (show 1023 + 24 ≤ a % 9223372036854775808 / 4503599627370496 by omega), if_pos c3, if_neg c2]
  · rw [if_neg (show ¬ (1023 + 24 ≤ a % 9223372036854775808 / 4503599627370496) by omega), if_neg c3]
set_option maxRecDepth 100000 in
theorem s126 (a : Nat) (ha : (a : Int) < 18446744073709551616) : ∃ (r1 r2 : Int), (∀ w, Calls Tryz.prog 59 #[.agg #[.int .u64 64, .int .u64 11, .int .u64 52], .int .u64 a] w (Rt (.tuple #[.int .i32 r1, .int .u8 r2]) w)) ∧ ∀ w, Calls Tryz.prog 126 #[.int .u64 a] w (Rt (.tuple #[.int .i32 r1, .int .u8 r2]) w) := by
  refine ⟨_, _, fun w => fk64.trunc24 a (u_of64 a ha) (by decide) w, fun w => ?_⟩
  have hV := fk64.truncN_bd (by decide) a
  have e1 : bits .and .u64 (a : Int) 9223372036854775807 = ((a % 9223372036854775808 : Nat) : Int) := fk64.aM a (u_of64 a ha)
  have e2 : bits .and .u64 ((a % 9223372036854775808 : Nat) : Int) 4503599627370495 = ((a % 9223372036854775808 % 4503599627370496 : Nat) : Int) := fk64.aF (a % 9223372036854775808) (by unfold U64; omega)
  rw [show a % 9223372036854775808 % 4503599627370496 = a % 4503599627370496 by omega] at e2
  have e3 : bits .or .u64 ((a % 4503599627370496 : Nat) : Int) 4503599627370496 = ((4503599627370496 + a % 4503599627370496 : Nat) : Int) := fk64.oH (a % 4503599627370496) (by omega)
  have e4 : (bits .and .u64 (a : Int) 9223372036854775808 != 0) = sgn 9223372036854775808 a := fk64.sgn_ne a (u_of64 a ha)
  have e5 : ((a % 9223372036854775808 : Nat) : Int) / 4503599627370496 = ((a % 9223372036854775808 / 4503599627370496 : Nat) : Int) := by omega
  have hq : a % 9223372036854775808 / 4503599627370496 ≤ 2047 := by omega
  obtain ⟨M, hM⟩ : ∃ M : Int, ((a % 9223372036854775808 : Nat) : Int) = M := ⟨_, rfl⟩
  have hR := trN64 a M hM
  have hqM : 4503599627370496 * (a % 9223372036854775808 / 4503599627370496) ≤ a % 9223372036854775808 ∧ a % 9223372036854775808 < 4503599627370496 * (a % 9223372036854775808 / 4503599627370496) + 4503599627370496 := by omega
  have hMi : (4503599627370496 : Int) * ((a % 9223372036854775808 / 4503599627370496 : Nat) : Int) ≤ M ∧ M < 4503599627370496 * ((a % 9223372036854775808 / 4503599627370496 : Nat) : Int) + 4503599627370496 := by omega
  rw [hM] at e1 e2 e5
  clear hqM hM
  generalize truncN 52 1023 9223372036854775808 4503599627370496 9218868437227405312 a = R at *
  generalize a % 9223372036854775808 / 4503599627370496 = q at *
  generalize 4503599627370496 + a % 4503599627370496 = G at *
  generalize a % 4503599627370496 = fr at *
  generalize sgn 9223372036854775808 a = sg at *
  by_cases c1 : M < 4607182418800017408
  · rw [if_pos c1] at hR
    subst hR
    clear e2 e3 e4 e5 hq hMi hV ha
    go_enter Tryz.func126, Tryz.ntmps126
    go_wp2_with (fail)
    go_ret2
    exact ⟨by simp, Gr.of (by repeat (first | exact Gr.refl _ | refine Gr.alloc ?_ _ | refine Gr.ext ?_ _ | refine Gr.drew ?_))⟩
  rw [if_neg c1] at hR
  by_cases c2 : 4715268809856909312 ≤ M
  · rw [if_pos c2] at hR
    by_cases c3 : 9218868437227405312 < M
    · rw [if_pos c3] at hR
      subst hR
      clear e2 e3 e4 e5 hq hMi hV ha
      go_enter Tryz.func126, Tryz.ntmps126
      go_wp2_with (fail)
      go_ret2
      exact ⟨by simp, Gr.of (by repeat (first | exact Gr.refl _ | refine Gr.alloc ?_ _ | refine Gr.ext ?_ _ | refine Gr.drew ?_))⟩
    · rw [if_neg c3] at hR
      subst hR
      clear e2 e3 e4 e5 hq hMi hV ha
      go_enter Tryz.func126, Tryz.ntmps126
      go_wp2_with (fail)
      go_ret2
      exact ⟨by simp, Gr.of (by repeat (first | exact Gr.refl _ | refine Gr.alloc ?_ _ | refine Gr.ext ?_ _ | refine Gr.drew ?_))⟩
  rw [if_neg c2] at hR
  obtain ⟨D, hD⟩ : ∃ D, 1075 - q = D := ⟨_, rfl⟩
  rw [hD] at hR
  have e6 : (1075 : Int) - (q : Int) = (D : Int) := by omega
  have hDb : D ≤ 52 := by omega
  have e7 : (G : Int) / 2 ^ min D 64 = ((G / 2 ^ D : Nat) : Int) := by rw [Nat.min_eq_left (by omega)]; simp
  have e8 : (G : Int) / 2 ^ D = ((G / 2 ^ D : Nat) : Int) := by simp
  generalize G / 2 ^ D = V at *
  clear hD ha hq hMi
  cases sg
  · rw [if_neg (by decide)] at hR
    subst hR
    dsimp only at hV
    have hw : IntKind.i32.wrap (V : Int) = (V : Int) := by rw [IntKind.wrap_i32]; omega
    clear hV
    go_enter Tryz.func126, Tryz.ntmps126
    go_wp2_with (fail)
    go_ret2
    exact ⟨by simp [hw], Gr.of (by repeat (first | exact Gr.refl _ | refine Gr.alloc ?_ _ | refine Gr.ext ?_ _ | refine Gr.drew ?_))⟩
  · rw [if_pos rfl] at hR
    subst hR
    dsimp only at hV
    have hw : IntKind.i32.wrap (V : Int) = (V : Int) := by rw [IntKind.wrap_i32]; omega
    have hw2 : IntKind.i32.wrap (-(V : Int)) = -(V : Int) := by rw [IntKind.wrap_i32]; omega
    clear hV
    go_enter Tryz.func126, Tryz.ntmps126
    go_wp2_with (fail)
    go_ret2
    exact ⟨by simp [hw, hw2], Gr.of (by repeat (first | exact Gr.refl _ | refine Gr.alloc ?_ _ | refine Gr.ext ?_ _ | refine Gr.drew ?_))⟩
end Go.Proofs.Qxb6500680aGreatDoor
