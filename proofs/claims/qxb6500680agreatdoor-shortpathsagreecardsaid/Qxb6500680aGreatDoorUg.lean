import Derived.Test.Qxb6500680aGreatDoorUf
namespace Go.Proofs.Qxb6500680aGreatDoor
open Go.RowKit Go.BigFrame
set_option linter.unusedSimpArgs false
set_option linter.unusedSectionVars false
attribute [local go_sem] ext_cell_if ext_frozen_if alloc_cell_if alloc_frozen_if ext_size ext_ext calmOp calmAt
/-- Ties to even: whether what is cut off rounds up. -/
def tieN (tail drop : Nat) (odd : Bool) : Bool := if tail = 0 then false else decide (2 ^ (drop - 1) < tail) || (decide (tail = 2 ^ (drop - 1)) && odd)
theorem tie_plain (x n : Nat) (odd : Bool) : tieN (x % 2 ^ (n + 1)) (n + 1) odd = ((x / 2 ^ n % 2 == 1) && (!(x % 2 ^ n == 0) || odd)) := by
  have h0 : 0 < 2 ^ n := Nat.pos_of_ne_zero (by simp)
  have h1 : x % 2 ^ (n + 1) = x % 2 ^ n + 2 ^ n * (x / 2 ^ n % 2) := by rw [Nat.pow_succ, Nat.mod_mul]
  have h2 := Nat.mod_lt x h0
  have h3 : x / 2 ^ n % 2 = 0 ∨ x / 2 ^ n % 2 = 1 := by omega
  unfold tieN
  rw [h1, Nat.add_sub_cancel]
  generalize x % 2 ^ n = r at *
  generalize 2 ^ n = p at *
  rcases h3 with h3 | h3
  · rw [h3, Nat.mul_zero, Nat.add_zero]
    by_cases hr : r = 0
    · simp [hr]
    · have a1 : ¬ p < r := by omega
      have a2 : ¬ r = p := by omega
      simp [hr, a1, a2]
  · rw [h3, Nat.mul_one]
    have a0 : ¬ (r + p = 0) := by omega
    by_cases hr : r = 0
    · have a1 : p ≠ 0 := by omega
      simp [hr, a1]
    · have a1 : p < r + p := by omega
      have a0 : p ≠ 0 := by omega
      simp [hr, a1, a0]
theorem shl1 (n : Nat) (h : n ≤ 62) : IntKind.u64.wrap ((2 : Int) ^ n) = ((2 ^ n : Nat) : Int) := by
  have h1 : 2 ^ n ≤ 2 ^ 62 := Nat.pow_le_pow_right (by decide) h
  have e : (2 : Int) ^ n = ((2 ^ n : Nat) : Int) := by simp
  rw [e, IntKind.wrap_u64]
  generalize (2 : Nat) ^ n = p at *
  omega
set_option maxRecDepth 100000 in
theorem ties_eq (tail drop : Nat) (odd : Bool) (h : tail ≠ 0 → 1 ≤ drop ∧ drop ≤ 63) (w : World) : Calls Tryz.prog 199 #[.int .u64 tail, .int .u64 drop, .bool odd] w (Rt (.bool (tieN tail drop odd)) w) := by
  unfold tieN
  by_cases c0 : tail = 0
  · subst c0
    rw [if_pos rfl]
    clear h
    go_enter Tryz.func199, Tryz.ntmps199
    go_wp2_with (fail)
    go_ret
    exact ⟨by simp, Gr.of (by repeat (first | exact Gr.refl _ | refine Gr.alloc ?_ _ | refine Gr.ext ?_ _ | refine Gr.drew ?_))⟩
  rw [if_neg c0]
  obtain ⟨h1, h2⟩ := h c0
  have b0 : ((tail : Int) == 0) = false := by rw [nbeq]; simp [c0]
  obtain ⟨n, rfl⟩ : ∃ n, drop = n + 1 := ⟨drop - 1, by omega⟩
  rw [Nat.add_sub_cancel]
  have e1 := shl1 n (by omega)
  have e2 : ((n + 1 : Nat) : Int) - 1 = (n : Int) := by omega
  have hn : n ≤ 62 := by omega
  generalize ((n + 1 : Nat) : Int) = D at *
  generalize 2 ^ n = p at *
  clear h h1 h2 c0
  by_cases c1 : p < tail
  · have c2 : (p : Int) < (tail : Int) := by omega
    have c3 : decide (p < tail) = true := by simpa using c1
    rw [c3]
    clear c1 c3
    go_enter Tryz.func199, Tryz.ntmps199
    go_wp2_with (fail)
    go_ret
    exact ⟨by simp, Gr.of (by repeat (first | exact Gr.refl _ | refine Gr.alloc ?_ _ | refine Gr.ext ?_ _ | refine Gr.drew ?_))⟩
  have c3 : decide (p < tail) = false := by simpa using c1
  rw [c3]
  have c2 : ¬ (p : Int) < (tail : Int) := by omega
  by_cases c4 : tail = p
  · subst c4
    clear c1 c3
    go_enter Tryz.func199, Tryz.ntmps199
    go_wp2_with (fail)
    go_ret
    exact ⟨by simp, Gr.of (by repeat (first | exact Gr.refl _ | refine Gr.alloc ?_ _ | refine Gr.ext ?_ _ | refine Gr.drew ?_))⟩
  · have c5 : ((tail : Int) == (p : Int)) = false := by rw [beq_eq_false_iff_ne]; omega
    have c6 : decide (tail = p) = false := by simpa using c4
    rw [c6]
    clear c1 c3 c4 c6
    go_enter Tryz.func199, Tryz.ntmps199
    go_wp2_with (fail)
    go_ret
    exact ⟨by simp, Gr.of (by repeat (first | exact Gr.refl _ | refine Gr.alloc ?_ _ | refine Gr.ext ?_ _ | refine Gr.drew ?_))⟩
end Go.Proofs.Qxb6500680aGreatDoor
