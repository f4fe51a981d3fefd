import Derived.Test.Qxb6500680aGreatDoorSi
namespace Go.Proofs.Qxb6500680aGreatDoor
open Go.RowKit Go.BigFrame
set_option linter.unusedSimpArgs false
set_option linter.unusedSectionVars false
attribute [local go_sem] ext_cell_if ext_frozen_if alloc_cell_if alloc_frozen_if ext_size ext_ext calmOp calmAt
theorem split32_eq (a : Nat) (ha : (a : Int) < 4294967296) (w : World) : Calls Tryz.prog 67 #[.agg #[.int .u64 32, .int .u64 8, .int .u64 23], .int .u64 a] w (Rt (.agg #[.bool (sgn 2147483648 a), .int .u32 (a / 8388608 % 256 : Nat), .int .u64 (a % 8388608 : Nat)]) w) := by
  obtain ⟨neg, q, s, e, f, hp⟩ := pat32_of a (by omega) ha
  have h1 : neg = sgn 2147483648 a := by rw [← hp.sg]; exact fk32.sgn_ne a (u_of32 a ha)
  have h2 : e = ((a / 8388608 % 256 : Nat) : Int) := by rw [← hp.d2]; omega
  have h3 : f = ((a % 8388608 : Nat) : Int) := by rw [← hp.d3]; omega
  rw [← h1, ← h2, ← h3]
  exact (split32 a neg q s e f hp w).mono fun _ _ h => h
theorem split64_eq (a : Nat) (ha : (a : Int) < 18446744073709551616) (w : World) : Calls Tryz.prog 67 #[.agg #[.int .u64 64, .int .u64 11, .int .u64 52], .int .u64 a] w (Rt (.agg #[.bool (sgn 9223372036854775808 a), .int .u32 (a / 4503599627370496 % 2048 : Nat), .int .u64 (a % 4503599627370496 : Nat)]) w) := by
  obtain ⟨neg, q, s, e, f, hp⟩ := pat64_of a (by omega) ha
  have h1 : neg = sgn 9223372036854775808 a := by rw [← hp.sg]; exact fk64.sgn_ne a (u_of64 a ha)
  have h2 : e = ((a / 4503599627370496 % 2048 : Nat) : Int) := by rw [← hp.d2]; omega
  have h3 : f = ((a % 4503599627370496 : Nat) : Int) := by rw [← hp.d3]; omega
  rw [← h1, ← h2, ← h3]
  exact (split64 a neg q s e f hp w).mono fun _ _ h => h
theorem or_s (b : Bool) (v : Nat) (h : v < 2147483648) : bits .or .u32 ((sgw 2147483648 b : Nat) : Int) (v : Int) = ((sgw 2147483648 b + v : Nat) : Int) := by
  cases b
  · rw [or_32 _ _ (by decide) (by omega), bor _ _ (by unfold U64; decide) (by unfold U64; omega)]
    simp [sgw]
  · rw [or_32 _ _ (by decide) (by omega), bor _ _ (by unfold U64; decide) (by unfold U64; omega), Nat.or_comm, ← bor _ _ (by unfold U64; omega) (by unfold U64; decide)]
    exact or_top 31 v h (by omega)
theorem s32w (a : Nat) (ha : (a : Int) < 4294967296) : bits .and .u32 (a : Int) 2147483648 = ((sgw 2147483648 (sgn 2147483648 a) : Nat) : Int) := by
  rw [s32 a ha]
  unfold sgw sgn
  have h2 : a / 2147483648 % 2 = 0 ∨ a / 2147483648 % 2 = 1 := by omega
  rcases h2 with h2 | h2 <;> rw [h2] <;> rfl
theorem jn32 (a : Nat) (ha : (a : Int) < 4294967296) : IntKind.u32.wrap (((a / 8388608 % 256 : Nat) : Int) * 8388608) = ((8388608 * (a / 8388608 % 256) : Nat) : Int) ∧ bits .or .u32 ((8388608 * (a / 8388608 % 256) : Nat) : Int) ((a % 8388608 : Nat) : Int) = ((a % 2147483648 : Nat) : Int) ∧ (sgn 2147483648 a = true → bits .or .u32 ((a % 2147483648 : Nat) : Int) 2147483648 = (a : Int)) ∧ (sgn 2147483648 a = false → ((a % 2147483648 : Nat) : Int) = (a : Int)) := by
  refine ⟨?_, ?_, ?_, ?_⟩
  · rw [IntKind.wrap_u32]; omega
  · rw [or_32 _ _ (by omega) (by omega)]
    refine (or_low 23 (a / 8388608 % 256) (a % 8388608) (by omega) (by omega)).trans ?_
    congr 1
    omega
  · intro h
    rw [show bits .or .u32 ((a % 2147483648 : Nat) : Int) 2147483648 = bits .or .u64 ((a % 2147483648 : Nat) : Int) 2147483648 from or_32 _ 2147483648 (by omega) (by decide)]
    refine (or_top 31 (a % 2147483648) (by omega) (by omega)).trans ?_
    unfold sgn at h
    simp at h
    congr 1
    omega
  · intro h
    unfold sgn at h
    simp at h
    omega
theorem jn64 (a : Nat) (ha : (a : Int) < 18446744073709551616) : IntKind.u64.wrap (((a / 4503599627370496 % 2048 : Nat) : Int) * 4503599627370496) = ((4503599627370496 * (a / 4503599627370496 % 2048) : Nat) : Int) ∧ bits .or .u64 ((4503599627370496 * (a / 4503599627370496 % 2048) : Nat) : Int) ((a % 4503599627370496 : Nat) : Int) = ((a % 9223372036854775808 : Nat) : Int) ∧ (sgn 9223372036854775808 a = true → bits .or .u64 ((a % 9223372036854775808 : Nat) : Int) 9223372036854775808 = (a : Int)) ∧ (sgn 9223372036854775808 a = false → ((a % 9223372036854775808 : Nat) : Int) = (a : Int)) := by
  refine ⟨?_, ?_, ?_, ?_⟩
  · rw [IntKind.wrap_u64]; omega
  · refine (or_low 52 (a / 4503599627370496 % 2048) (a % 4503599627370496) (by omega) (by omega)).trans ?_
    congr 1
    omega
  · intro h
    refine (or_top 63 (a % 9223372036854775808) (by omega) (by omega)).trans ?_
    unfold sgn at h
    simp at h
    congr 1
    omega
  · intro h
    unfold sgn at h
    simp at h
    omega
set_option maxRecDepth 100000 in
theorem s100 (a : Nat) (ha : (a : Int) < 4294967296) (w : World) : Calls Tryz.prog 100 #[.bool (sgn 2147483648 a), .int .u32 (a / 8388608 % 256 : Nat), .int .u32 (a % 8388608 : Nat)] w (Rt (.int .u32 a) w) := by
  have e3 := e32 (a / 8388608 % 256) (by omega)
  have e4 := f32 (a % 8388608) (by omega)
  rw [Nat.mod_mod] at e3 e4
  obtain ⟨j1, j2, j3, j4⟩ := jn32 a ha
  have hx : ((a / 8388608 % 256 : Nat) : Int) ≤ 255 := by omega
  generalize a % 2147483648 = m at *
  generalize 8388608 * (a / 8388608 % 256) = xx at *
  generalize a / 8388608 % 256 = x at *
  generalize a % 8388608 = z at *
  generalize sgn 2147483648 a = b at *
  clear ha
  cases b
  · have j4 := j4 rfl
    clear j3
    go_enter Tryz.func100, Tryz.ntmps100
    go_wp2_with (fail)
    go_ret
    exact ⟨by simp [j4], Gr.of (by repeat (first | exact Gr.refl _ | refine Gr.alloc ?_ _ | refine Gr.ext ?_ _ | refine Gr.drew ?_))⟩
  · have j3 := j3 rfl
    clear j4
    go_enter Tryz.func100, Tryz.ntmps100
    go_wp2_with (fail)
    go_ret
    exact ⟨by simp [j3], Gr.of (by repeat (first | exact Gr.refl _ | refine Gr.alloc ?_ _ | refine Gr.ext ?_ _ | refine Gr.drew ?_))⟩
set_option maxRecDepth 100000 in
theorem s122 (a : Nat) (ha : (a : Int) < 18446744073709551616) (w : World) : Calls Tryz.prog 122 #[.bool (sgn 9223372036854775808 a), .int .u32 (a / 4503599627370496 % 2048 : Nat), .int .u64 (a % 4503599627370496 : Nat)] w (Rt (.int .u64 a) w) := by
  have e3 : bits .and .u32 ((a / 4503599627370496 % 2048 : Nat) : Int) 2047 = ((a / 4503599627370496 % 2048 % 2048 : Nat) : Int) := (ad32 _ 2047 (by omega) (by decide)).trans (fk64.aB _ (by unfold U64; omega))
  have e4 : bits .and .u64 ((a % 4503599627370496 : Nat) : Int) 4503599627370495 = ((a % 4503599627370496 % 4503599627370496 : Nat) : Int) := fk64.aF _ (by unfold U64; omega)
  have e5 : IntKind.u64.wrap ((a / 4503599627370496 % 2048 : Nat) : Int) = ((a / 4503599627370496 % 2048 : Nat) : Int) := by rw [IntKind.wrap_u64]; omega
  rw [Nat.mod_mod] at e3 e4
  obtain ⟨j1, j2, j3, j4⟩ := jn64 a ha
  have hx : ((a / 4503599627370496 % 2048 : Nat) : Int) ≤ 2047 := by omega
  generalize a % 9223372036854775808 = m at *
  generalize 4503599627370496 * (a / 4503599627370496 % 2048) = xx at *
  generalize a / 4503599627370496 % 2048 = x at *
  generalize a % 4503599627370496 = z at *
  generalize sgn 9223372036854775808 a = b at *
  clear ha
  cases b
  · have j4 := j4 rfl
    clear j3
    go_enter Tryz.func122, Tryz.ntmps122
    go_wp2_with (fail)
    go_ret
    exact ⟨by simp [j4], Gr.of (by repeat (first | exact Gr.refl _ | refine Gr.alloc ?_ _ | refine Gr.ext ?_ _ | refine Gr.drew ?_))⟩
  · have j3 := j3 rfl
    clear j4
    go_enter Tryz.func122, Tryz.ntmps122
    go_wp2_with (fail)
    go_ret
    exact ⟨by simp [j3], Gr.of (by repeat (first | exact Gr.refl _ | refine Gr.alloc ?_ _ | refine Gr.ext ?_ _ | refine Gr.drew ?_))⟩
set_option maxRecDepth 100000 in
theorem s101 (a : Nat) (ha : (a : Int) < 4294967296) : ∃ (c : Int), (∀ w, Calls Tryz.prog 72 #[.agg #[.int .u64 32, .int .u64 8, .int .u64 23], .int .u64 a] w (Rt (.int .u8 c) w)) ∧ ∀ w, Calls Tryz.prog 101 #[.int .u32 a] w (Rt (.int .u8 c) w) := by
  have e0 : bits .and .u64 (a : Int) 2147483647 = ((a % 2147483648 : Nat) : Int) := fk32.aM a (u_of32 a ha)
  have e1 : bits .and .u32 (a : Int) 2147483647 = ((a % 2147483648 : Nat) : Int) := m32 a ha
  obtain ⟨c, hc⟩ : ∃ c, Cls 8388608 2139095040 ((a % 2147483648 : Nat) : Int) c := by
    generalize a % 2147483648 = m
    unfold Cls
    by_cases c0 : m = 0
    · exact ⟨0, by omega⟩
    by_cases c1 : m < 8388608
    · exact ⟨1, by omega⟩
    by_cases c2 : m < 2139095040
    · exact ⟨2, by omega⟩
    by_cases c3 : m = 2139095040
    · exact ⟨3, by omega⟩
    · exact ⟨4, by omega⟩
  refine ⟨c, fun w => (classify32 a _ c e0 hc w).mono fun _ _ h => h, fun w => ?_⟩
  clear e0 ha
  unfold Cls at hc
  generalize ((a % 2147483648 : Nat) : Int) = m at *
  generalize (a : Int) = A at *
  rcases hc with ⟨rfl, rfl⟩ | ⟨rfl, h1, h2⟩ | ⟨rfl, h1, h2⟩ | ⟨rfl, rfl⟩ | ⟨rfl, h1⟩
  all_goals
    go_enter Tryz.func101, Tryz.ntmps101
    go_wp2_with (fail)
    go_ret
    exact ⟨by simp, Gr.of (by repeat (first | exact Gr.refl _ | refine Gr.alloc ?_ _ | refine Gr.ext ?_ _ | refine Gr.drew ?_))⟩
set_option maxRecDepth 100000 in
theorem s123 (a : Nat) (ha : (a : Int) < 18446744073709551616) : ∃ (c : Int), (∀ w, Calls Tryz.prog 72 #[.agg #[.int .u64 64, .int .u64 11, .int .u64 52], .int .u64 a] w (Rt (.int .u8 c) w)) ∧ ∀ w, Calls Tryz.prog 123 #[.int .u64 a] w (Rt (.int .u8 c) w) := by
  have e0 : bits .and .u64 (a : Int) 9223372036854775807 = ((a % 9223372036854775808 : Nat) : Int) := fk64.aM a (u_of64 a ha)
  have e1 : bits .and .u64 (a : Int) 9223372036854775807 = ((a % 9223372036854775808 : Nat) : Int) := fk64.aM a (u_of64 a ha)
  obtain ⟨c, hc⟩ : ∃ c, Cls 4503599627370496 9218868437227405312 ((a % 9223372036854775808 : Nat) : Int) c := by
    generalize a % 9223372036854775808 = m
    unfold Cls
    by_cases c0 : m = 0
    · exact ⟨0, by omega⟩
    by_cases c1 : m < 4503599627370496
    · exact ⟨1, by omega⟩
    by_cases c2 : m < 9218868437227405312
    · exact ⟨2, by omega⟩
    by_cases c3 : m = 9218868437227405312
    · exact ⟨3, by omega⟩
    · exact ⟨4, by omega⟩
  refine ⟨c, fun w => (classify64 a _ c e0 hc w).mono fun _ _ h => h, fun w => ?_⟩
  clear e0 ha
  unfold Cls at hc
  generalize ((a % 9223372036854775808 : Nat) : Int) = m at *
  generalize (a : Int) = A at *
  rcases hc with ⟨rfl, rfl⟩ | ⟨rfl, h1, h2⟩ | ⟨rfl, h1, h2⟩ | ⟨rfl, rfl⟩ | ⟨rfl, h1⟩
  all_goals
    go_enter Tryz.func123, Tryz.ntmps123
    go_wp2_with (fail)
    go_ret
    exact ⟨by simp, Gr.of (by repeat (first | exact Gr.refl _ | refine Gr.alloc ?_ _ | refine Gr.ext ?_ _ | refine Gr.drew ?_))⟩
end Go.Proofs.Qxb6500680aGreatDoor
