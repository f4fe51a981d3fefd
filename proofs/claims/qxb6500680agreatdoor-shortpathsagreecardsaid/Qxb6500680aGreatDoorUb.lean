import Derived.Test.Qxb6500680aGreatDoorUa
namespace Go.Proofs.Qxb6500680aGreatDoor
open Go.RowKit Go.BigFrame
set_option linter.unusedSimpArgs false
set_option linter.unusedSectionVars false
attribute [local go_sem] ext_cell_if ext_frozen_if alloc_cell_if alloc_frozen_if ext_size ext_ext calmOp calmAt
theorem ulpN_i (EM SM a b : Nat) (M N : Int) (hM : ((a % SM : Nat) : Int) = M) (hN : ((b % SM : Nat) : Int) = N) : ulpN EM SM a b = if (EM : Int) < M ∨ (EM : Int) < N then (0, 2) else if M = EM ∨ N = EM then (0, 3) else if sgn SM (a ^^^ b) then (0, 4) else (N - M, 0) := by
  unfold ulpN
  by_cases h1 : EM < a % SM ∨ EM < b % SM
  · rw [if_pos h1, if_pos (show (EM : Int) < M ∨ (EM : Int) < N by omega)]
  · rw [if_neg h1, if_neg (show ¬ ((EM : Int) < M ∨ (EM : Int) < N) by omega)]
    by_cases h2 : a % SM = EM ∨ b % SM = EM
    · rw [if_pos h2, if_pos (show M = EM ∨ N = EM by omega)]
    · rw [if_neg h2, if_neg (show ¬ (M = EM ∨ N = EM) by omega), hM, hN]
theorem addN_i (EM SM a : Nat) (d M : Int) (hM : ((a % SM : Nat) : Int) = M) (ha : a < 2 * SM) : addN EM SM a d = if (EM : Int) < M then (a, 2) else if M = EM then (a, 3) else if M + d < 0 ∨ (EM : Int) ≤ M + d then (a, 1) else (sgw SM (sgn SM a) + (M + d).toNat, 0) := by
  unfold addN
  rw [Nat.mod_eq_of_lt ha]
  by_cases h1 : EM < a % SM
  · rw [if_pos h1, if_pos (show (EM : Int) < M by omega)]
  · rw [if_neg h1, if_neg (show ¬ ((EM : Int) < M) by omega)]
    by_cases h2 : a % SM = EM
    · rw [if_pos h2, if_pos (show M = EM by omega)]
    · rw [if_neg h2, if_neg (show ¬ (M = EM) by omega), hM]
theorem xor_lt32 (a b : Nat) (ha : (a : Int) < 4294967296) (hb : (b : Int) < 4294967296) : ((a ^^^ b : Nat) : Int) < 4294967296 := by
  have := Nat.xor_lt_two_pow (n := 32) (n32 ha) (n32 hb)
  omega
set_option maxRecDepth 100000 in
theorem s108 (a b : Nat) (ha : (a : Int) < 4294967296) (hb : (b : Int) < 4294967296) : ∃ (r1 r2 : Int), (∀ w, Calls Tryz.prog 109 #[.agg #[.int .u64 32, .int .u64 8, .int .u64 23], .int .u64 a, .int .u64 b] w (Rt (.tuple #[.int .i64 r1, .int .u8 r2]) w)) ∧ ∀ w, Calls Tryz.prog 108 #[.int .u32 a, .int .u32 b] w (Rt (.tuple #[.int .i32 r1, .int .u8 r2]) w) := by
  refine ⟨_, _, fun w => fk32.ulpDiff a b (u_of32 a ha) (u_of32 b hb) w, fun w => ?_⟩
  have e1 := m32 a ha
  have e2 := m32 b hb
  have e3 := xr32 a b (n32 ha) (n32 hb)
  have e4 := g32 (a ^^^ b) (xor_lt32 a b ha hb)
  obtain ⟨M, hM⟩ : ∃ M : Int, ((a % 2147483648 : Nat) : Int) = M := ⟨_, rfl⟩
  obtain ⟨N, hN⟩ : ∃ M : Int, ((b % 2147483648 : Nat) : Int) = M := ⟨_, rfl⟩
  have hR : ulpN 2139095040 2147483648 a b = if (2139095040 : Int) < M ∨ (2139095040 : Int) < N then (0, 2) else if M = 2139095040 ∨ N = 2139095040 then (0, 3) else if sgn 2147483648 (a ^^^ b) then (0, 4) else (N - M, 0) := ulpN_i 2139095040 2147483648 a b M N hM hN
  obtain ⟨h0, h1⟩ : 0 ≤ M ∧ M < 2147483648 := by omega
  obtain ⟨h2, h3⟩ : 0 ≤ N ∧ N < 2147483648 := by omega
  rw [hM] at e1
  rw [hN] at e2
  generalize ulpN 2139095040 2147483648 a b = R at *
  generalize sgn 2147483648 (a ^^^ b) = s at *
  generalize ((a ^^^ b : Nat) : Int) = z at *
  generalize (a : Int) = A at *
  generalize (b : Int) = B at *
  clear ha hb hM hN
  by_cases c1 : (2139095040 : Int) < M
  · rw [if_pos (.inl c1)] at hR
    subst hR
    go_enter Tryz.func108, Tryz.ntmps108
    go_wp2_with (fail)
    go_ret2
    exact ⟨by simp, Gr.of (by repeat (first | exact Gr.refl _ | refine Gr.alloc ?_ _ | refine Gr.ext ?_ _ | refine Gr.drew ?_))⟩
  by_cases c2 : (2139095040 : Int) < N
  · rw [if_pos (.inr c2)] at hR
    subst hR
    go_enter Tryz.func108, Tryz.ntmps108
    go_wp2_with (fail)
    go_ret2
    exact ⟨by simp, Gr.of (by repeat (first | exact Gr.refl _ | refine Gr.alloc ?_ _ | refine Gr.ext ?_ _ | refine Gr.drew ?_))⟩
  rw [if_neg (by omega)] at hR
  by_cases c3 : M = 2139095040
  · rw [if_pos (.inl c3)] at hR
    subst hR
    subst c3
    go_enter Tryz.func108, Tryz.ntmps108
    go_wp2_with (fail)
    go_ret2
    exact ⟨by simp, Gr.of (by repeat (first | exact Gr.refl _ | refine Gr.alloc ?_ _ | refine Gr.ext ?_ _ | refine Gr.drew ?_))⟩
  have b3 : (M == 2139095040) = false := by rw [beq_eq_false_iff_ne]; exact c3
  by_cases c4 : N = 2139095040
  · rw [if_pos (.inr c4)] at hR
    subst hR
    subst c4
    go_enter Tryz.func108, Tryz.ntmps108
    go_wp2_with (fail)
    go_ret2
    exact ⟨by simp, Gr.of (by repeat (first | exact Gr.refl _ | refine Gr.alloc ?_ _ | refine Gr.ext ?_ _ | refine Gr.drew ?_))⟩
  have b4 : (N == 2139095040) = false := by rw [beq_eq_false_iff_ne]; exact c4
  rw [if_neg (by omega)] at hR
  cases s
  · rw [if_neg (by decide)] at hR
    subst hR
    go_enter Tryz.func108, Tryz.ntmps108
    go_wp2_with (fail)
    go_ret2
    exact ⟨by simp, Gr.of (by repeat (first | exact Gr.refl _ | refine Gr.alloc ?_ _ | refine Gr.ext ?_ _ | refine Gr.drew ?_))⟩
  · rw [if_pos rfl] at hR
    subst hR
    go_enter Tryz.func108, Tryz.ntmps108
    go_wp2_with (fail)
    go_ret2
    exact ⟨by simp, Gr.of (by repeat (first | exact Gr.refl _ | refine Gr.alloc ?_ _ | refine Gr.ext ?_ _ | refine Gr.drew ?_))⟩
set_option maxRecDepth 100000 in
theorem s110 (a : Nat) (d : Int) (ha : (a : Int) < 4294967296) (hd0 : -2147483648 ≤ d) (hd1 : d ≤ 2147483647) : ∃ (r1 r2 : Int), 0 ≤ r1 ∧ r1 < 4294967296 ∧ (∀ w, Calls Tryz.prog 111 #[.agg #[.int .u64 32, .int .u64 8, .int .u64 23], .int .u64 a, .int .i64 d] w (Rt (.tuple #[.int .u64 r1, .int .u8 r2]) w)) ∧ ∀ w, Calls Tryz.prog 110 #[.int .u32 a, .int .i32 d] w (Rt (.tuple #[.int .u32 r1, .int .u8 r2]) w) := by
  refine ⟨_, _, ?_, ?_, fun w => fk32.addUlps a d (u_of32 a ha) (by omega) (by omega) w, fun w => ?_⟩
  · omega
  · unfold addN
    have hs : sgw 2147483648 (sgn 2147483648 a) ≤ 2147483648 := by unfold sgw; split <;> omega
    generalize sgw 2147483648 (sgn 2147483648 a) = S at *
    split
    · dsimp only; omega
    split
    · dsimp only; omega
    split
    · dsimp only; omega
    · dsimp only; omega
  have e1 := m32 a ha
  have e2 := s32w a ha
  obtain ⟨M, hM⟩ : ∃ M : Int, ((a % 2147483648 : Nat) : Int) = M := ⟨_, rfl⟩
  have hR : addN 2139095040 2147483648 a d = if (2139095040 : Int) < M then (a, 2) else if M = 2139095040 then (a, 3) else if M + d < 0 ∨ (2139095040 : Int) ≤ M + d then (a, 1) else (sgw 2147483648 (sgn 2147483648 a) + (M + d).toNat, 0) := addN_i 2139095040 2147483648 a d M hM (by omega)
  obtain ⟨h0, h1⟩ : 0 ≤ M ∧ M < 2147483648 := by omega
  have e3 : ¬ (M + d < 0 ∨ (2139095040 : Int) ≤ M + d) → bits .or .u32 ((sgw 2147483648 (sgn 2147483648 a) : Nat) : Int) (M + d) = ((sgw 2147483648 (sgn 2147483648 a) + (M + d).toNat : Nat) : Int) := by
    intro h
    have h2 := or_s (sgn 2147483648 a) (M + d).toNat (by omega)
    rwa [show (((M + d).toNat : Nat) : Int) = M + d by omega] at h2
  rw [hM] at e1
  generalize addN 2139095040 2147483648 a d = R at *
  generalize sgw 2147483648 (sgn 2147483648 a) + (M + d).toNat = V at *
  generalize ((sgw 2147483648 (sgn 2147483648 a) : Nat) : Int) = SG at *
  clear hM ha
  by_cases c1 : (2139095040 : Int) < M
  · rw [if_pos c1] at hR
    subst hR
    clear e3
    go_enter Tryz.func110, Tryz.ntmps110
    go_wp2_with (fail)
    go_ret2
    exact ⟨by simp, Gr.of (by repeat (first | exact Gr.refl _ | refine Gr.alloc ?_ _ | refine Gr.ext ?_ _ | refine Gr.drew ?_))⟩
  rw [if_neg c1] at hR
  by_cases c2 : M = 2139095040
  · rw [if_pos c2] at hR
    subst hR
    subst c2
    clear e3
    go_enter Tryz.func110, Tryz.ntmps110
    go_wp2_with (fail)
    go_ret2
    exact ⟨by simp, Gr.of (by repeat (first | exact Gr.refl _ | refine Gr.alloc ?_ _ | refine Gr.ext ?_ _ | refine Gr.drew ?_))⟩
  rw [if_neg c2] at hR
  by_cases c3 : M + d < 0
  · rw [if_pos (.inl c3)] at hR
    subst hR
    clear e3
    go_enter Tryz.func110, Tryz.ntmps110
    go_wp2_with (fail)
    go_ret2
    exact ⟨by simp, Gr.of (by repeat (first | exact Gr.refl _ | refine Gr.alloc ?_ _ | refine Gr.ext ?_ _ | refine Gr.drew ?_))⟩
  by_cases c4 : (2139095040 : Int) ≤ M + d
  · rw [if_pos (.inr c4)] at hR
    subst hR
    clear e3
    go_enter Tryz.func110, Tryz.ntmps110
    go_wp2_with (fail)
    go_ret2
    exact ⟨by simp, Gr.of (by repeat (first | exact Gr.refl _ | refine Gr.alloc ?_ _ | refine Gr.ext ?_ _ | refine Gr.drew ?_))⟩
  have e3 := e3 (by omega)
  rw [if_neg (by omega)] at hR
  subst hR
  go_enter Tryz.func110, Tryz.ntmps110
  go_wp2_with (fail)
  go_ret2
  exact ⟨by simp [e3], Gr.of (by repeat (first | exact Gr.refl _ | refine Gr.alloc ?_ _ | refine Gr.ext ?_ _ | refine Gr.drew ?_))⟩
end Go.Proofs.Qxb6500680aGreatDoor
