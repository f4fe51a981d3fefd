import Derived.Test.Qxb6500680aGreatDoorUg
namespace Go.Proofs.Qxb6500680aGreatDoor
open Go.RowKit Go.BigFrame
set_option linter.unusedSimpArgs false
set_option linter.unusedSectionVars false
attribute [local go_sem] ext_cell_if ext_frozen_if alloc_cell_if alloc_frozen_if ext_size ext_ext calmOp calmAt
theorem lenX (hi lo : Nat) (hh : U64 hi) (hl : U64 lo) (h0 : hi * 18446744073709551616 + lo ≠ 0) : 0 < len128 hi lo ∧ 2 ^ (len128 hi lo - 1) ≤ hi * 18446744073709551616 + lo ∧ hi * 18446744073709551616 + lo < 2 ^ len128 hi lo := by
  unfold len128
  unfold U64 at hh hl
  by_cases c : hi = 0
  · subst c
    rw [if_pos rfl, Nat.zero_mul, Nat.zero_add]
    exact aux_bd 64 lo hl (by omega)
  · rw [if_neg c]
    obtain ⟨p1, p2, p3⟩ := aux_bd 64 hi hh c
    change 0 < Lib.bitLen hi at p1
    change 2 ^ (Lib.bitLen hi - 1) ≤ hi at p2
    change hi < 2 ^ Lib.bitLen hi at p3
    generalize Lib.bitLen hi = L at *
    rw [show 64 + L - 1 = L - 1 + 64 by omega, Nat.pow_add, Nat.add_comm 64 L, Nat.pow_add]
    generalize 2 ^ (L - 1) = A at *
    generalize 2 ^ L = B at *
    omega
theorem cutX (hi lo n : Nat) (hl : U64 lo) (h1 : 1 ≤ n) (h2 : n ≤ 63) (hn : hi < 2 ^ n) : cut128 hi lo n = ((hi * 18446744073709551616 + lo) / 2 ^ n, (hi * 18446744073709551616 + lo) / 2 ^ (n - 1) % 2 == 1, !((hi * 18446744073709551616 + lo) % 2 ^ (n - 1) == 0)) := by
  unfold U64 at hl
  obtain ⟨m, rfl⟩ : ∃ m, n = m + 1 := ⟨n - 1, by omega⟩
  rw [Nat.add_sub_cancel]
  have e64 : (18446744073709551616 : Nat) = 2 ^ (63 - m) * 2 ^ (m + 1) := by rw [← Nat.pow_add, show 63 - m + (m + 1) = 64 by omega]
  have e64' : (18446744073709551616 : Nat) = 2 ^ (63 - m) * 2 * 2 ^ m := by rw [e64, Nat.pow_succ, Nat.mul_assoc, Nat.mul_comm (2 ^ m)]
  have q0 : 0 < 2 ^ m := Nat.pos_of_ne_zero (by simp)
  have k1 : (hi * 18446744073709551616 + lo) / 2 ^ (m + 1) = hi * 2 ^ (63 - m) + lo / 2 ^ (m + 1) := by
    rw [e64, ← Nat.mul_assoc, Nat.add_comm, Nat.add_mul_div_right _ _ (Nat.pos_of_ne_zero (by simp)), Nat.add_comm]
  have k2 : (hi * 18446744073709551616 + lo) / 2 ^ m % 2 = lo / 2 ^ m % 2 := by
    rw [e64', ← Nat.mul_assoc, Nat.add_comm, Nat.add_mul_div_right _ _ q0, ← Nat.mul_assoc]
    omega
  have k3 : (hi * 18446744073709551616 + lo) % 2 ^ m = lo % 2 ^ m := by
    rw [e64', ← Nat.mul_assoc, Nat.add_comm, Nat.add_mul_mod_self_right]
  have hs : hi * 2 ^ (64 - (m + 1)) % 18446744073709551616 = 2 ^ (63 - m) * hi := by
    rw [show 64 - (m + 1) = 63 - m by omega, Nat.mul_comm]
    refine Nat.mod_eq_of_lt ?_
    rw [e64]
    exact Nat.mul_lt_mul_of_pos_left hn (Nat.pos_of_ne_zero (by simp))
  have hlo : lo / 2 ^ (m + 1) < 2 ^ (63 - m) := by
    refine (Nat.div_lt_iff_lt_mul (Nat.pos_of_ne_zero (by simp))).2 ?_
    rw [← e64]
    exact hl
  have ks : (shr128 hi lo (m + 1)).2 = hi * 2 ^ (63 - m) + lo / 2 ^ (m + 1) := by
    unfold shr128
    rw [if_neg (by omega), if_pos (by omega)]
    dsimp only
    rw [hs, Nat.or_comm, ← Nat.two_pow_add_eq_or_of_lt hlo, Nat.mul_comm]
  unfold cut128
  rw [if_neg (by omega), ks, k1, k2, k3, Nat.add_sub_cancel]
  congr 1
  refine Prod.ext ?_ ?_
  · show bit128 hi lo m = _
    unfold bit128
    rw [if_pos (by omega)]
  · show any128 hi lo m = _
    unfold any128
    by_cases c : m = 0
    · subst c
      simp
      omega
    · rw [if_neg c, if_pos (by omega)]
end Go.Proofs.Qxb6500680aGreatDoor
