import Derived.Test.Qxb6500679aRows
import Derived.Test.Qxb6500679aFloat
import Derived.Test.Qxb6500679aPlain
namespace Go.Proofs.Qxb6500679a
open Go.RowKit Go.BigFrame
set_option linter.unusedSimpArgs false
attribute [local go_sem] ext_cell_if ext_frozen_if alloc_cell_if alloc_frozen_if ext_size ext_ext
theorem ret_int {k : IntKind} {a b : Int} (h : a = b) : Ending.returned (.int k a) = .returned (.int k b) := by rw [h]
theorem hidden {p : Prop} (h : p) : Hid p := h
set_option maxHeartbeats 400000 in
theorem riceLen_any (v k : Nat) (hv : v < 18446744073709551616) (hk : k ≤ 40) (w : World) :
    Calls Try.prog 31 #[.int .u64 v, .int .i64 k] w fun e w' => e = .returned (.int .i64 (rl v k)) ∧ w' = w := by
  obtain ⟨q, hq⟩ : ∃ q : Nat, v / 2 ^ k = q := ⟨_, rfl⟩
  have e1 : (v : Int) / 2 ^ k = (q : Int) := by rw [← hq]; simp
  have hlt : q < 18446744073709551616 := by rw [← hq]; exact Nat.lt_of_le_of_lt (Nat.div_le_self _ _) hv
  have R : Hid (rl v k = if 32 ≤ q then 96 else q + 1 + k) := by unfold rl; rw [hq]; rfl
  clear hq hv
  by_cases h : 32 ≤ q
  · have R' : Hid (rl v k = 96) := by rw [R.out, if_pos h]; rfl
    go_enter Try.func31, Try.ntmps31
    go_wp2
    go_ret
    exact ⟨ret_int (by rw [R'.out]; rfl), rfl⟩
  · have R' : Hid (rl v k = q + 1 + k) := by rw [R.out, if_neg h]; rfl
    have h' : q < 32 := by omega
    go_enter Try.func31, Try.ntmps31
    go_wp2
    go_ret
    exact ⟨ret_int (by rw [R'.out]; simp), rfl⟩
theorem tmod_bd (n m : Int) (hm : 0 < m) : -m < n.tmod m ∧ n.tmod m < m := ⟨Int.lt_tmod_of_pos n hm, Int.tmod_lt_of_pos n hm⟩
theorem plen_int (m o : Nat) (P : Nat) (hP : 2 ^ o = P) (h0 : 0 < P) : ((plen m o : Nat) : Int) = if ((m : Int) + P - 1) / P < 1 then 1 else ((m : Int) + P - 1) / P := by
  subst hP
  have e : ((m : Int) + (2 ^ o : Nat) - 1) / (2 ^ o : Nat) = (((m + 2 ^ o - 1) / 2 ^ o : Nat) : Int) := by
    have : ((m : Int) + (2 ^ o : Nat) - 1) = ((m + 2 ^ o - 1 : Nat) : Int) := by omega
    rw [this, Int.natCast_ediv]
  rw [e]
  unfold plen
  split <;> omega
set_option maxHeartbeats 1000000 in
theorem partLen_any (m o : Nat) (hm : m ≤ 5000) (ho : o ≤ 7) (w : World) :
    Calls Try.prog 28 #[.int .i64 m, .int .i64 o] w fun e w' => e = .returned (.int .i64 (plen m o)) ∧ w' = w := by
  obtain ⟨P, hP⟩ : ∃ P, 2 ^ o = P := ⟨_, rfl⟩
  have h0 : 0 < P := by rw [← hP]; exact Nat.pow_pos (by decide)
  have h1 : P ≤ 128 := by rw [← hP]; exact Nat.pow_le_pow_right (by decide) ho
  have e1 : (2 : Int) ^ o = (P : Int) := by rw [← hP]; simp
  have HP := hidden (plen_int m o P hP h0)
  clear hP
  go_enter Try.func28, Try.ntmps28
  go_wp2
  all_goals
    go_ret
    refine ⟨ret_int ?_, rfl⟩
    rw [HP.out]
    first | rw [if_pos (by assumption)] | rw [if_neg (by omega)]
set_option maxHeartbeats 1000000 in
theorem partLenM_any (m o : Nat) (hm : m ≤ 5000) (ho : o ≤ 7) (w : World) :
    Calls Try.prog 30 #[.int .i64 m, .int .i64 o] w fun e w' => e = .returned (.int .i64 (plen m o)) ∧ w' = w := by
  have A := plen_le m o
  have B := plen_least m o
  have C : plen m o ≤ 5001 := by
    unfold plen
    have : (m + 2 ^ o - 1) / 2 ^ o ≤ m := by
      have hp : 0 < 2 ^ o := Nat.pow_pos (by decide)
      rcases Nat.eq_zero_or_pos m with h | h
      · subst h; rw [Nat.div_eq_of_lt (by omega)]; omega
      · apply Nat.le_of_lt_succ
        rw [Nat.div_lt_iff_lt_mul hp, Nat.succ_mul]
        have : m ≤ m * 2 ^ o := Nat.le_mul_of_pos_right m hp
        omega
    omega
  have D := plen_pos m o
  generalize plen m o = pl at *
  rcases (show o = 0 ∨ o = 1 ∨ o = 2 ∨ o = 3 ∨ o = 4 ∨ o = 5 ∨ o = 6 ∨ o = 7 by omega) with rfl | rfl | rfl | rfl | rfl | rfl | rfl | rfl
  all_goals
    have HA := hidden A
    have HB := hidden B
    clear A B
    go_enter Try.func30, Try.ntmps30
    go_wp2
    go_loop [5] (fun i => ∃ s : Nat, 1 ≤ s ∧ s ≤ pl ∧ i = .int .i64 s) (fun i => pl - (intOf i).toNat)
    case atStart => exact ⟨1, by omega, by omega, rfl⟩
    case round =>
      obtain ⟨s, h1, h2, rfl⟩ := hrel
      by_cases h3 : s < pl
      · have h4 := HB.out s h1 h3
        simp only [Nat.reducePow] at h4
        go_wp2
        go_round
        case rel => exact ⟨s + 1, by omega, by omega, by go_num⟩
        case measure => simp [intOf]; omega
      · have h4 := HA.out
        obtain rfl : s = pl := by omega
        simp only [Nat.reducePow] at h4
        go_wp2
        go_ret
        exact ⟨rfl, rfl⟩
set_option maxHeartbeats 400000 in
theorem zigzag_any (n : Int) (w : World) (h0 : -9223372036854775808 ≤ n) (h1 : n ≤ 9223372036854775807) :
    Calls Try.prog 20 #[.int .i64 n] w fun e w' => ∃ v : Nat, v < 18446744073709551616 ∧ e = .returned (.int .u64 v) ∧ w' = w := by
  by_cases h : n < 0
  · go_enter Try.func20, Try.ntmps20
    go_wp2
    go_ret
    exact ⟨(-(n + 1) * 2 + 1).toNat, by omega, ret_int (by omega), rfl⟩
  · go_enter Try.func20, Try.ntmps20
    go_wp2
    go_ret
    exact ⟨(n * 2).toNat, by omega, ret_int (by omega), rfl⟩
set_option maxHeartbeats 400000 in
theorem fold_any (n : Int) (w : World) :
    Calls Try.prog 14 #[.int .i64 n] w fun e w' => ∃ x : Int, -33554432 < x ∧ x < 33554432 ∧ e = .returned (.int .i32 x) ∧ w' = w := by
  obtain ⟨b0, b1⟩ := tmod_bd n 33554432 (by decide)
  go_enter Try.func14, Try.ntmps14
  go_wp2
  go_ret
  exact ⟨n.tmod 33554432, b0, b1, rfl, rfl⟩
set_option maxHeartbeats 400000 in
theorem count_any (n : Int) (w : World) :
    Calls Try.prog 16 #[.int .i64 n] w fun e w' => ∃ c : Nat, c ≤ 4195 ∧ e = .returned (.int .i64 c) ∧ w' = w := by
  obtain ⟨b0, b1⟩ := tmod_bd n 4196 (by decide)
  go_enter Try.func16, Try.ntmps16
  go_wp2
  · go_ret
    exact ⟨(-n.tmod 4196).toNat, by omega, ret_int (by omega), rfl⟩
  · go_ret
    exact ⟨(n.tmod 4196).toNat, by omega, ret_int (by omega), rfl⟩
end Go.Proofs.Qxb6500679a
