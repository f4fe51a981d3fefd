import Derived.Test.Qxb6500680aGreatDoorSz
import Derived.Test.Qxb6500680aGreatDoorSd
namespace Go.Proofs.Qxb6500680aGreatDoor
open Go.RowKit Go.BigFrame
set_option linter.unusedSimpArgs false
set_option linter.unusedSectionVars false
attribute [local go_sem] ext_cell_if ext_frozen_if alloc_cell_if alloc_frozen_if ext_size ext_ext calmOp calmAt
theorem shl_hi (y n : Nat) (hn : n ≤ 64) : y * 2 ^ n / 18446744073709551616 = y / 2 ^ (64 - n) := by
  have e : (18446744073709551616 : Nat) = 2 ^ (64 - n) * 2 ^ n := by rw [← Nat.pow_add, Nat.sub_add_cancel hn]
  rw [e, Nat.mul_div_mul_right _ _ (Nat.pos_of_ne_zero (by simp))]
theorem or0 (z : Nat) (h : U64 z) : bits .or .u64 0 (z : Int) = (z : Int) := by
  have e := bor 0 z (by unfold U64; omega) h
  simpa using e
set_option maxRecDepth 100000 in
theorem shl0_eq (y n : Nat) (hy : U64 y) (hn : n ≤ 63) (w : World) : Calls Tryz.prog 197 #[.agg #[.int .u64 0, .int .u64 y], .int .u64 n] w (Rt (.agg #[.int .u64 (y * 2 ^ n / 18446744073709551616 : Nat), .int .u64 (y * 2 ^ n % 18446744073709551616 : Nat)]) w) := by
  by_cases c0 : n = 0
  · subst c0
    have e1 : y * 2 ^ 0 / 18446744073709551616 = 0 := by rw [Nat.pow_zero, Nat.mul_one]; exact Nat.div_eq_of_lt hy
    have e2 : y * 2 ^ 0 % 18446744073709551616 = y := by rw [Nat.pow_zero, Nat.mul_one]; exact Nat.mod_eq_of_lt hy
    rw [e1, e2]
    clear e1 e2 hy hn
    go_enter Tryz.func197, Tryz.ntmps197
    go_wp2_with (fail)
    exact bodyPost_ret (v := .agg #[.int .u64 0, .int .u64 y]) (by simp [results, Tryz.results197, go_sem, ↓IntWalk.iteOmega]) rfl ⟨rfl, Gr.of (by repeat (first | with_reducible exact Gr.refl _ | with_reducible refine Gr.ext ?_ _ | with_reducible refine Gr.setCell ?_ (by simp) _ | with_reducible refine Gr.alloc ?_ _ | with_reducible refine Gr.drew ?_))⟩
  · have e1 := or0 (y / 2 ^ (64 - n)) (div_u hy _)
    rw [← pw_div] at e1
    have e2 := shl_eq y n
    rw [shl_hi y n (by omega), ← e2, ← pw_div, ← e1]
    obtain ⟨S, hS⟩ : ∃ S, 64 - n = S := ⟨_, rfl⟩
    have hS2 : (64 : Int) - (n : Int) = S := by omega
    have hS3 : S ≤ 64 := by omega
    have hn2 : n < 64 := by omega
    rw [hS]
    clear e1 e2 hy hS hn
    go_enter Tryz.func197, Tryz.ntmps197
    go_wp2_with (fail)
    exact bodyPost_ret (v := .agg #[.int .u64 (bits .or .u64 0 ((y : Int) / 2 ^ S)), .int .u64 (IntKind.u64.wrap ((y : Int) * 2 ^ n))]) (by simp [results, Tryz.results197, go_sem, ↓IntWalk.iteOmega]) rfl ⟨rfl, Gr.of (by repeat (first | with_reducible exact Gr.refl _ | with_reducible refine Gr.ext ?_ _ | with_reducible refine Gr.setCell ?_ (by simp) _ | with_reducible refine Gr.alloc ?_ _ | with_reducible refine Gr.drew ?_))⟩
/-- The quotient of two aligned values, below 2^24. -/
def quoN (neg : Bool) (d : Int) (s s' : Nat) : Int × Int := if d < 0 then (0, 0) else if 24 < d then (0, 1) else if 16777216 ≤ s * 2 ^ d.toNat / s' then (0, 1) else (if neg then -((s * 2 ^ d.toNat / s' : Nat) : Int) else ((s * 2 ^ d.toNat / s' : Nat) : Int), 0)
theorem quonum (d : Int) (h0 : ¬ d < 0) (h1 : ¬ 24 < d) : IntKind.u64.wrap d = (d.toNat : Nat) ∧ d.toNat ≤ 63 := by rw [IntKind.wrap_u64]; omega
theorem quo_hi (s s' dn : Nat) (hs : U64 s) (hs' : 9223372036854775808 ≤ s') (hd : dn ≤ 63) : s * 2 ^ dn / 18446744073709551616 < s' := by
  rw [shl_hi s dn (by omega)]
  have h1 : s / 2 ^ (64 - dn) ≤ s / 2 ^ 1 := Nat.div_le_div_left (Nat.pow_le_pow_right (by decide) (by omega)) (by decide)
  unfold U64 at hs
  omega
theorem q24 (q : Nat) : ((q : Int) / 16777216 != 0) = decide (16777216 ≤ q) := by
  rw [show (q : Int) / 16777216 = ((q / 16777216 : Nat) : Int) by simp, nbne]
  by_cases h : 16777216 ≤ q
  · have h2 : q / 16777216 ≠ 0 := by omega
    simp [h, h2]
  · have h2 : q / 16777216 = 0 := by omega
    simp [h, h2]
set_option maxRecDepth 100000 in
set_option maxHeartbeats 1000000 in
theorem quoAligned_eq (b b' : Bool) (x x' : Int) (s s' : Nat) (hs : U64 s) (hs0 : 9223372036854775808 ≤ s') (hs1 : U64 s') (hx : -100000 ≤ x ∧ x ≤ 100000) (hx' : -100000 ≤ x' ∧ x' ≤ 100000) (w : World) : Calls Tryz.prog 98 #[.agg #[.bool b, .int .i64 x, .int .u64 s], .agg #[.bool b', .int .i64 x', .int .u64 s'], .int .u64 24] w (Rt (.tuple #[.int .i64 (quoN (b != b') (x - x') s s').1, .int .u8 (quoN (b != b') (x - x') s s').2]) w) := by
  have wd := w64_of (x - x') (by omega) (by omega)
  obtain ⟨R, hR⟩ : ∃ R, quoN (b != b') (x - x') s s' = R := ⟨_, rfl⟩
  rw [hR]
  unfold quoN at hR
  have HQH := hidden (fun dn h => quo_hi s s' dn hs hs0 h)
  obtain ⟨d, hd⟩ : ∃ d, x - x' = d := ⟨_, rfl⟩
  rw [hd] at wd hR
  have wd2 : wrap64 (x - x') = d := by rw [hd]; exact wd
  clear wd hd hx hx'
  by_cases c0 : d < 0
  · rw [if_pos c0] at hR
    subst hR
    clear hs hs0 hs1 HQH
    go_enter Tryz.func98, Tryz.ntmps98
    go_wp2_with (fail)
    go_ret2
    exact ⟨rfl, Gr.of (by repeat (first | exact Gr.refl _ | refine Gr.alloc ?_ _ | refine Gr.ext ?_ _ | refine Gr.drew ?_))⟩
  rw [if_neg c0] at hR
  by_cases c1 : 24 < d
  · rw [if_pos c1] at hR
    subst hR
    clear hs hs0 hs1 HQH
    go_enter Tryz.func98, Tryz.ntmps98
    go_wp2_with (fail)
    go_ret2
    exact ⟨rfl, Gr.of (by repeat (first | exact Gr.refl _ | refine Gr.alloc ?_ _ | refine Gr.ext ?_ _ | refine Gr.drew ?_))⟩
  rw [if_neg c1] at hR
  obtain ⟨wu, hdn⟩ := quonum d c0 c1
  have C149 := hidden (fun w => wide_eq s w)
  have C197 := hidden (fun w => shl0_eq s d.toNat hs hdn w)
  have C148 := hidden (fun w => div64_eq (s * 2 ^ d.toNat / 18446744073709551616) (s * 2 ^ d.toNat % 18446744073709551616) s' (HQH.out _ hdn) (modU _) hs1 w)
  have hre : s * 2 ^ d.toNat / 18446744073709551616 * 18446744073709551616 + s * 2 ^ d.toNat % 18446744073709551616 = s * 2 ^ d.toNat := by rw [Nat.mul_comm]; exact Nat.div_add_mod _ _
  rw [hre] at C148
  have hqu : U64 (s * 2 ^ d.toNat / s') := by
    have h1 := HQH.out _ hdn
    have h2 : s * 2 ^ d.toNat < s' * 18446744073709551616 := (Nat.div_lt_iff_lt_mul (by decide)).1 h1
    exact (Nat.div_lt_iff_lt_mul (by omega)).2 (by rw [Nat.mul_comm 18446744073709551616 s']; exact h2)
  generalize s * 2 ^ d.toNat / 18446744073709551616 = H at *
  generalize s * 2 ^ d.toNat % 18446744073709551616 = L at *
  generalize s * 2 ^ d.toNat % s' = rm at *
  generalize s * 2 ^ d.toNat / s' = q at *
  generalize d.toNat = dn at *
  have e24 := q24 q
  clear hs hs0 hs1 HQH hre hdn
  by_cases c2 : 16777216 ≤ q
  · rw [if_pos c2] at hR
    subst hR
    have e25 : ((q : Int) / 16777216 != 0) = true := by rw [e24]; simpa using c2
    have E25 := hidden e25
    clear e24 e25 hqu c2
    go_enter Tryz.func98, Tryz.ntmps98
    go_upto_region 8 with (first | (go_at_call 149; (with_reducible refine (C149.out _).mono ?_); rintro _ _ ⟨rfl, x149, rfl⟩) | (go_at_call 197; (with_reducible refine (C197.out _).mono ?_); rintro _ _ ⟨rfl, x197, rfl⟩) | (go_at_call 148; (with_reducible refine (C148.out _).mono ?_); rintro _ _ ⟨rfl, x148, rfl⟩))
    have e25 := E25.out
    go_wp2_with (fail)
    go_ret2
    exact ⟨rfl, Gr.of (by repeat (first | exact Gr.refl _ | refine Gr.alloc ?_ _ | refine Gr.ext ?_ _ | refine Gr.drew ?_))⟩
  rw [if_neg c2] at hR
  have e25 : ((q : Int) / 16777216 != 0) = false := by rw [e24]; simpa using c2
  obtain ⟨w6, w7⟩ := tnum3 q (by omega)
  have E25 := hidden e25
  have W6 := hidden w6
  have W7 := hidden w7
  obtain ⟨ng, hng⟩ : ∃ ng, (b != b') = ng := ⟨_, rfl⟩
  rw [hng] at hR
  have hng2 : (!(b == b')) = ng := hng
  clear e24 e25 hqu c2 w6 w7 hng
  subst hR
  go_enter Tryz.func98, Tryz.ntmps98
  go_upto_region 8 with (first | (go_at_call 149; (with_reducible refine (C149.out _).mono ?_); rintro _ _ ⟨rfl, x149, rfl⟩) | (go_at_call 197; (with_reducible refine (C197.out _).mono ?_); rintro _ _ ⟨rfl, x197, rfl⟩) | (go_at_call 148; (with_reducible refine (C148.out _).mono ?_); rintro _ _ ⟨rfl, x148, rfl⟩))
  have e25 := E25.out
  cases ng
  · go_wp2_with (fail)
    go_ret2
    exact ⟨by rw [W6.out]; rfl, Gr.of (by repeat (first | exact Gr.refl _ | refine Gr.alloc ?_ _ | refine Gr.ext ?_ _ | refine Gr.drew ?_))⟩
  · go_wp2_with (fail)
    go_ret2
    exact ⟨by rw [W6.out, W7.out]; rfl, Gr.of (by repeat (first | exact Gr.refl _ | refine Gr.alloc ?_ _ | refine Gr.ext ?_ _ | refine Gr.drew ?_))⟩
end Go.Proofs.Qxb6500680aGreatDoor
