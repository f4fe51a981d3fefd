import Derived.Test.Qxb6500680aGreatDoorUc
namespace Go.Proofs.Qxb6500680aGreatDoor
open Go.RowKit Go.BigFrame
set_option linter.unusedSimpArgs false
set_option linter.unusedSectionVars false
attribute [local go_sem] ext_cell_if ext_frozen_if alloc_cell_if alloc_frozen_if ext_size ext_ext calmOp calmAt
theorem ulp_bd (a b : Nat) : -2147483648 ≤ (ulpN 2139095040 2147483648 a b).1 ∧ (ulpN 2139095040 2147483648 a b).1 ≤ 2147483647 := by
  have h1 := Nat.mod_lt a (show 0 < 2147483648 by decide)
  have h2 := Nat.mod_lt b (show 0 < 2147483648 by decide)
  unfold ulpN
  generalize a % 2147483648 = x at *
  generalize b % 2147483648 = y at *
  split
  · decide
  · split
    · decide
    · split
      · decide
      · dsimp only
        omega
set_option maxRecDepth 100000 in
theorem t112 (a b : Nat) (ha : (a : Int) < 4294967296) (hb : (b : Int) < 4294967296) : ∃ (r : Nat) (fl : Int), r < 2 * 2147483648 ∧ (∀ w, Calls Tryz.prog 44 #[.agg #[.int .u64 32, .int .u64 8, .int .u64 23], .int .u64 a, .int .u64 b, .int .u8 0] w (Rt (.tuple #[.int .u64 r, .int .u8 fl]) w)) ∧ ∀ w, Glob w → Calls Tryz.prog 112 #[.int .u32 a, .int .u32 b] w (Rt (.tuple #[.int .u32 r, .int .u8 fl]) w) := by
  obtain ⟨r, fl, hr, CC⟩ := fk32.mul a b (u_of32 a ha) (u_of32 b hb)
  refine ⟨r, fl, hr, CC, fun w hg => ?_⟩
  have C44 : Hid (∀ w, Calls Tryz.prog 44 #[.agg #[.int .u64 32, .int .u64 8, .int .u64 23], .int .u64 a, .int .u64 b, .int .u8 0] w (Rt (.tuple #[.int .u64 r, .int .u8 fl]) w)) := hidden CC
  have hw := w32_lt r hr
  obtain ⟨a0, a1, a2, b0, b1, b2⟩ := hg
  clear CC hr b0 b1 b2
  go_enter Tryz.func112, Tryz.ntmps112
  go_wp2_with (first | (go_at_call 44; (with_reducible refine (C44.out _).mono ?_); rintro _ _ ⟨rfl, x44, rfl⟩))
  go_ret2
  exact ⟨by simp [hw], Gr.of (by repeat (first | exact Gr.refl _ | refine Gr.alloc ?_ _ | refine Gr.ext ?_ _ | refine Gr.drew ?_))⟩
set_option maxRecDepth 100000 in
theorem t113 (a b : Nat) (ha : (a : Int) < 4294967296) (hb : (b : Int) < 4294967296) : ∃ (r : Nat) (fl : Int), r < 2 * 2147483648 ∧ (∀ w, Calls Tryz.prog 45 #[.agg #[.int .u64 32, .int .u64 8, .int .u64 23], .int .u64 a, .int .u64 b, .int .u8 0] w (Rt (.tuple #[.int .u64 r, .int .u8 fl]) w)) ∧ ∀ w, Glob w → Calls Tryz.prog 113 #[.int .u32 a, .int .u32 b] w (Rt (.tuple #[.int .u32 r, .int .u8 fl]) w) := by
  obtain ⟨r, fl, hr, CC⟩ := fk32.div a b (u_of32 a ha) (u_of32 b hb)
  refine ⟨r, fl, hr, CC, fun w hg => ?_⟩
  have C45 : Hid (∀ w, Calls Tryz.prog 45 #[.agg #[.int .u64 32, .int .u64 8, .int .u64 23], .int .u64 a, .int .u64 b, .int .u8 0] w (Rt (.tuple #[.int .u64 r, .int .u8 fl]) w)) := hidden CC
  have hw := w32_lt r hr
  obtain ⟨a0, a1, a2, b0, b1, b2⟩ := hg
  clear CC hr b0 b1 b2
  go_enter Tryz.func113, Tryz.ntmps113
  go_wp2_with (first | (go_at_call 45; (with_reducible refine (C45.out _).mono ?_); rintro _ _ ⟨rfl, x45, rfl⟩))
  go_ret2
  exact ⟨by simp [hw], Gr.of (by repeat (first | exact Gr.refl _ | refine Gr.alloc ?_ _ | refine Gr.ext ?_ _ | refine Gr.drew ?_))⟩
set_option maxRecDepth 100000 in
theorem t114 (a b : Nat) (ha : (a : Int) < 4294967296) (hb : (b : Int) < 4294967296) : ∃ (r : Nat) (fl : Int), r < 2 * 2147483648 ∧ (∀ w, Calls Tryz.prog 46 #[.agg #[.int .u64 32, .int .u64 8, .int .u64 23], .int .u64 a, .int .u64 b, .int .u8 0] w (Rt (.tuple #[.int .u64 r, .int .u8 fl]) w)) ∧ ∀ w, Glob w → Calls Tryz.prog 114 #[.int .u32 a, .int .u32 b] w (Rt (.tuple #[.int .u32 r, .int .u8 fl]) w) := by
  obtain ⟨r, fl, hr, CC⟩ := fk32.add a b (u_of32 a ha) (u_of32 b hb)
  refine ⟨r, fl, hr, CC, fun w hg => ?_⟩
  have C46 : Hid (∀ w, Calls Tryz.prog 46 #[.agg #[.int .u64 32, .int .u64 8, .int .u64 23], .int .u64 a, .int .u64 b, .int .u8 0] w (Rt (.tuple #[.int .u64 r, .int .u8 fl]) w)) := hidden CC
  have hw := w32_lt r hr
  obtain ⟨a0, a1, a2, b0, b1, b2⟩ := hg
  clear CC hr b0 b1 b2
  go_enter Tryz.func114, Tryz.ntmps114
  go_wp2_with (first | (go_at_call 46; (with_reducible refine (C46.out _).mono ?_); rintro _ _ ⟨rfl, x46, rfl⟩))
  go_ret2
  exact ⟨by simp [hw], Gr.of (by repeat (first | exact Gr.refl _ | refine Gr.alloc ?_ _ | refine Gr.ext ?_ _ | refine Gr.drew ?_))⟩
set_option maxRecDepth 100000 in
theorem t115 (a b : Nat) (ha : (a : Int) < 4294967296) (hb : (b : Int) < 4294967296) : ∃ (r : Nat) (fl : Int), r < 2 * 2147483648 ∧ (∀ w, Calls Tryz.prog 47 #[.agg #[.int .u64 32, .int .u64 8, .int .u64 23], .int .u64 a, .int .u64 b, .int .u8 0] w (Rt (.tuple #[.int .u64 r, .int .u8 fl]) w)) ∧ ∀ w, Glob w → Calls Tryz.prog 115 #[.int .u32 a, .int .u32 b] w (Rt (.tuple #[.int .u32 r, .int .u8 fl]) w) := by
  obtain ⟨r, fl, hr, CC⟩ := fk32.sub a b (u_of32 a ha) (u_of32 b hb)
  refine ⟨r, fl, hr, CC, fun w hg => ?_⟩
  have C47 : Hid (∀ w, Calls Tryz.prog 47 #[.agg #[.int .u64 32, .int .u64 8, .int .u64 23], .int .u64 a, .int .u64 b, .int .u8 0] w (Rt (.tuple #[.int .u64 r, .int .u8 fl]) w)) := hidden CC
  have hw := w32_lt r hr
  obtain ⟨a0, a1, a2, b0, b1, b2⟩ := hg
  clear CC hr b0 b1 b2
  go_enter Tryz.func115, Tryz.ntmps115
  go_wp2_with (first | (go_at_call 47; (with_reducible refine (C47.out _).mono ?_); rintro _ _ ⟨rfl, x47, rfl⟩))
  go_ret2
  exact ⟨by simp [hw], Gr.of (by repeat (first | exact Gr.refl _ | refine Gr.alloc ?_ _ | refine Gr.ext ?_ _ | refine Gr.drew ?_))⟩
set_option maxRecDepth 100000 in
theorem t116 (a : Nat) (ha : (a : Int) < 4294967296) : ∃ (r : Nat), r < 2 * 2147483648 ∧ (∀ w, Calls Tryz.prog 53 #[.agg #[.int .u64 32, .int .u64 8, .int .u64 23], .int .u64 a] w (Rt (.int .u64 r) w)) ∧ ∀ w, Glob w → Calls Tryz.prog 116 #[.int .u32 a] w (Rt (.int .u32 r) w) := by
  obtain ⟨r, hr, CC⟩ := fk32.nextUp a (u_of32 a ha)
  refine ⟨r, hr, CC, fun w hg => ?_⟩
  have C53 : Hid (∀ w, Calls Tryz.prog 53 #[.agg #[.int .u64 32, .int .u64 8, .int .u64 23], .int .u64 a] w (Rt (.int .u64 r) w)) := hidden CC
  have hw := w32_lt r hr
  obtain ⟨a0, a1, a2, b0, b1, b2⟩ := hg
  clear CC hr b0 b1 b2
  go_enter Tryz.func116, Tryz.ntmps116
  go_wp2_with (first | (go_at_call 53; (with_reducible refine (C53.out _).mono ?_); rintro _ _ ⟨rfl, x53, rfl⟩))
  go_ret
  exact ⟨by simp [hw], Gr.of (by repeat (first | exact Gr.refl _ | refine Gr.alloc ?_ _ | refine Gr.ext ?_ _ | refine Gr.drew ?_))⟩
set_option maxRecDepth 100000 in
theorem t117 (a : Nat) (ha : (a : Int) < 4294967296) : ∃ (r : Nat), r < 2 * 2147483648 ∧ (∀ w, Calls Tryz.prog 56 #[.agg #[.int .u64 32, .int .u64 8, .int .u64 23], .int .u64 a] w (Rt (.int .u64 r) w)) ∧ ∀ w, Glob w → Calls Tryz.prog 117 #[.int .u32 a] w (Rt (.int .u32 r) w) := by
  obtain ⟨r, hr, CC⟩ := fk32.nextDown a (u_of32 a ha)
  refine ⟨r, hr, CC, fun w hg => ?_⟩
  have C56 : Hid (∀ w, Calls Tryz.prog 56 #[.agg #[.int .u64 32, .int .u64 8, .int .u64 23], .int .u64 a] w (Rt (.int .u64 r) w)) := hidden CC
  have hw := w32_lt r hr
  obtain ⟨a0, a1, a2, b0, b1, b2⟩ := hg
  clear CC hr b0 b1 b2
  go_enter Tryz.func117, Tryz.ntmps117
  go_wp2_with (first | (go_at_call 56; (with_reducible refine (C56.out _).mono ?_); rintro _ _ ⟨rfl, x56, rfl⟩))
  go_ret
  exact ⟨by simp [hw], Gr.of (by repeat (first | exact Gr.refl _ | refine Gr.alloc ?_ _ | refine Gr.ext ?_ _ | refine Gr.drew ?_))⟩
set_option maxRecDepth 100000 in
theorem t108 (a b : Nat) (ha : (a : Int) < 4294967296) (hb : (b : Int) < 4294967296) : ∃ (r1 r2 : Int), -2147483648 ≤ r1 ∧ r1 ≤ 2147483647 ∧ (∀ w, Calls Tryz.prog 109 #[.agg #[.int .u64 32, .int .u64 8, .int .u64 23], .int .u64 a, .int .u64 b] w (Rt (.tuple #[.int .i64 r1, .int .u8 r2]) w)) ∧ ∀ w, Calls Tryz.prog 108 #[.int .u32 a, .int .u32 b] w (Rt (.tuple #[.int .i32 r1, .int .u8 r2]) w) := by
  refine ⟨_, _, (ulp_bd a b).1, (ulp_bd a b).2, fun w => fk32.ulpDiff a b (u_of32 a ha) (u_of32 b hb) w, fun w => ?_⟩
  have e1 := m32 a ha
  have e2 := m32 b hb
  have e3 := xr32 a b (n32 ha) (n32 hb)
  have e4 := g32 (a ^^^ b) (xor_lt32 a b ha hb)
  obtain ⟨M, hM⟩ : ∃ M : Int, ((a % 2147483648 : Nat) : Int) = M := ⟨_, rfl⟩
  obtain ⟨N, hN⟩ : ∃ M : Int, ((b % 2147483648 : Nat) : Int) = M := ⟨_, rfl⟩
  have hR : ulpN 2139095040 2147483648 a b = if (2139095040 : Int) < M ∨ (2139095040 : Int) < N then (0, 2) else if M = 2139095040 ∨ N = 2139095040 then (0, 3) else if sgn 2147483648 (a ^^^ b) then (0, 4) else (N - M, 0) := ulpN_i 2139095040 2147483648 a b M N hM hN
  obtain ⟨h0, h1⟩ : 0 ≤ M ∧ M < 2147483648 := by omega
  obtain ⟨h2, h3⟩ : 0 ≤ N ∧ N < 2147483648 := by omega
  rw [hM] at e1
  rw [hN] at e2
  generalize ulpN 2139095040 2147483648 a b = R at *
  generalize sgn 2147483648 (a ^^^ b) = s at *
  generalize ((a ^^^ b : Nat) : Int) = z at *
  generalize (a : Int) = A at *
  generalize (b : Int) = B at *
  clear ha hb hM hN
  by_cases c1 : (2139095040 : Int) < M
  · rw [if_pos (.inl c1)] at hR
    subst hR
    go_enter Tryz.func108, Tryz.ntmps108
    go_wp2_with (fail)
    go_ret2
    exact ⟨by simp, Gr.of (by repeat (first | exact Gr.refl _ | refine Gr.alloc ?_ _ | refine Gr.ext ?_ _ | refine Gr.drew ?_))⟩
  by_cases c2 : (2139095040 : Int) < N
  · rw [if_pos (.inr c2)] at hR
    subst hR
    go_enter Tryz.func108, Tryz.ntmps108
    go_wp2_with (fail)
    go_ret2
    exact ⟨by simp, Gr.of (by repeat (first | exact Gr.refl _ | refine Gr.alloc ?_ _ | refine Gr.ext ?_ _ | refine Gr.drew ?_))⟩
  rw [if_neg (by omega)] at hR
  by_cases c3 : M = 2139095040
  · rw [if_pos (.inl c3)] at hR
    subst hR
    subst c3
    go_enter Tryz.func108, Tryz.ntmps108
    go_wp2_with (fail)
    go_ret2
    exact ⟨by simp, Gr.of (by repeat (first | exact Gr.refl _ | refine Gr.alloc ?_ _ | refine Gr.ext ?_ _ | refine Gr.drew ?_))⟩
  have b3 : (M == 2139095040) = false := by rw [beq_eq_false_iff_ne]; exact c3
  by_cases c4 : N = 2139095040
  · rw [if_pos (.inr c4)] at hR
    subst hR
    subst c4
    go_enter Tryz.func108, Tryz.ntmps108
    go_wp2_with (fail)
    go_ret2
    exact ⟨by simp, Gr.of (by repeat (first | exact Gr.refl _ | refine Gr.alloc ?_ _ | refine Gr.ext ?_ _ | refine Gr.drew ?_))⟩
  have b4 : (N == 2139095040) = false := by rw [beq_eq_false_iff_ne]; exact c4
  rw [if_neg (by omega)] at hR
  cases s
  · rw [if_neg (by decide)] at hR
    subst hR
    go_enter Tryz.func108, Tryz.ntmps108
    go_wp2_with (fail)
    go_ret2
    exact ⟨by simp, Gr.of (by repeat (first | exact Gr.refl _ | refine Gr.alloc ?_ _ | refine Gr.ext ?_ _ | refine Gr.drew ?_))⟩
  · rw [if_pos rfl] at hR
    subst hR
    go_enter Tryz.func108, Tryz.ntmps108
    go_wp2_with (fail)
    go_ret2
    exact ⟨by simp, Gr.of (by repeat (first | exact Gr.refl _ | refine Gr.alloc ?_ _ | refine Gr.ext ?_ _ | refine Gr.drew ?_))⟩
end Go.Proofs.Qxb6500680aGreatDoor
