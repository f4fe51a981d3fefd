import Derived.Test.Qxb6500680aGreatDoorTleaf
import Derived.Test.Qxb6500680aGreatDoorPats
namespace Go.Proofs.Qxb6500680aGreatDoor
open Go.RowKit Go.BigFrame
set_option linter.unusedSimpArgs false
attribute [local go_sem] ext_cell_if ext_frozen_if alloc_cell_if alloc_frozen_if ext_size ext_ext
/-- Fits 64 bits. -/
def U64 (p : Nat) : Prop := p < 18446744073709551616
/-- A call that answers v and only grows the memory. -/
def Rt (v : Value) (w : World) (e : Ending) (w' : World) : Prop := e = .returned v ∧ ∃ x, w' = ext w x
/-- A format, its masks as numbers. -/
structure Fk (W E F BI SM MM PM HB FM EM QB MB : Nat) : Prop where
  c89 : ∀ w, Calls Tryz.prog 89 #[(.agg #[.int .u64 W, .int .u64 E, .int .u64 F])] w (Rt (.int .u64 SM) w)
  c90 : ∀ w, Calls Tryz.prog 90 #[(.agg #[.int .u64 W, .int .u64 E, .int .u64 F])] w (Rt (.int .u64 MM) w)
  c20 : ∀ w, Calls Tryz.prog 20 #[(.agg #[.int .u64 W, .int .u64 E, .int .u64 F])] w (Rt (.int .u64 PM) w)
  c156 : ∀ w, Calls Tryz.prog 156 #[(.agg #[.int .u64 W, .int .u64 E, .int .u64 F])] w (Rt (.int .u64 FM) w)
  c85 : ∀ w, Calls Tryz.prog 85 #[(.agg #[.int .u64 W, .int .u64 E, .int .u64 F])] w (Rt (.int .u64 EM) w)
  c158 : ∀ w, Calls Tryz.prog 158 #[(.agg #[.int .u64 W, .int .u64 E, .int .u64 F])] w (Rt (.int .u64 HB) w)
  c173 : ∀ w, Calls Tryz.prog 173 #[(.agg #[.int .u64 W, .int .u64 E, .int .u64 F])] w (Rt (.int .u64 QB) w)
  c183 : ∀ w, Calls Tryz.prog 183 #[(.agg #[.int .u64 W, .int .u64 E, .int .u64 F])] w (Rt (.int .u64 MB) w)
  c145 : ∀ w, Calls Tryz.prog 145 #[(.agg #[.int .u64 W, .int .u64 E, .int .u64 F])] w (Rt (.int .i64 BI) w)
  c187 : ∀ w, Calls Tryz.prog 187 #[(.agg #[.int .u64 W, .int .u64 E, .int .u64 F])] w (Rt (.int .i64 (1 - (BI : Int))) w)
  c192 : ∀ w, Calls Tryz.prog 192 #[(.agg #[.int .u64 W, .int .u64 E, .int .u64 F])] w (Rt (.int .i64 BI) w)
  r1 : MM + 1 = SM
  r2 : FM + 1 = HB
  r3 : EM + HB = SM
  r4 : 2 * QB = HB
  r5 : EM = MB * HB
  r6 : MB = 2 * BI + 1
  r7 : PM + 1 = 2 * SM
  r8 : HB = 2 ^ F
  r9 : SM = 2 ^ (E + F)
  b1 : 1 ≤ BI
  b2 : BI ≤ 1023
  b3 : 2 ≤ F
  b4 : F ≤ 52
  b5 : E + F ≤ 63
  b6 : MB + 1 = 2 ^ E
  b7 : W = E + F + 1
theorem fk32 : Fk 32 8 23 127 2147483648 2147483647 4294967295 8388608 8388607 2139095040 4194304 255 := ⟨signMask32, magMask32, patMask32, fracMask32, expMask32, hiddenBit32, quietBit32, maxBiased32, bias32, emin32, emax32, rfl, rfl, rfl, rfl, rfl, rfl, rfl, rfl, rfl, by omega, by omega, by omega, by omega, by omega, rfl, rfl⟩
theorem fk64 : Fk 64 11 52 1023 9223372036854775808 9223372036854775807 18446744073709551615 4503599627370496 4503599627370495 9218868437227405312 2251799813685248 2047 := ⟨signMask64, magMask64, patMask64, fracMask64, expMask64, hiddenBit64, quietBit64, maxBiased64, bias64, emin64, emax64, rfl, rfl, rfl, rfl, rfl, rfl, rfl, rfl, rfl, by omega, by omega, by omega, by omega, by omega, rfl, rfl⟩
theorem u64_lt {p : Nat} (h : U64 p) : p < 18446744073709551616 := h
theorem bor (a b : Nat) (ha : U64 a) (hb : U64 b) : bits .or .u64 (a : Int) (b : Int) = ((a ||| b : Nat) : Int) := u64_or_nat a b ha hb
theorem bxor (a b : Nat) (ha : U64 a) (hb : U64 b) : bits .xor .u64 (a : Int) (b : Int) = ((a ^^^ b : Nat) : Int) := u64_xor_nat a b ha hb
section
variable {W E F BI SM MM PM HB FM EM QB MB : Nat} (k : Fk W E F BI SM MM PM HB FM EM QB MB)
include k
theorem Fk.s63 : SM ≤ 9223372036854775808 := by rw [k.r9]; exact Nat.pow_le_pow_right (show 0 < 2 by decide) k.b5
theorem Fk.hp : 0 < HB := by have := k.r2; omega
theorem Fk.sp : 0 < SM := by have := k.r1; omega
theorem Fk.uS : U64 SM := by have := k.s63; unfold U64; omega
theorem Fk.aM (p : Nat) (hp : U64 p) : bits .and .u64 (p : Int) (MM : Int) = ((p % SM : Nat) : Int) := by
  have h := and_low (E + F) (by have := k.b5; omega) p hp
  have e : MM = 2 ^ (E + F) - 1 := by have h1 := k.r1; have h2 := k.r9; omega
  rw [e, h, k.r9]
theorem Fk.aF (p : Nat) (hp : U64 p) : bits .and .u64 (p : Int) (FM : Int) = ((p % HB : Nat) : Int) := by
  have h := and_low F (by have := k.b4; omega) p hp
  have e : FM = 2 ^ F - 1 := by have h1 := k.r2; have h2 := k.r8; omega
  rw [e, h, k.r8]
theorem Fk.aB (p : Nat) (hp : U64 p) : bits .and .u64 (p : Int) (MB : Int) = ((p % (MB + 1) : Nat) : Int) := by
  have h := and_low E (by have := k.b5; omega) p hp
  have h1 := k.b6
  have e : MB = 2 ^ E - 1 := by omega
  rw [h1, e, h]
theorem Fk.aP (p : Nat) (hp : U64 p) : bits .and .u64 (p : Int) (PM : Int) = ((p % (2 * SM) : Nat) : Int) := by
  have h := and_low (E + F + 1) (by have := k.b5; omega) p hp
  have h3 : 2 ^ (E + F + 1) = 2 * SM := by rw [Nat.pow_succ, k.r9, Nat.mul_comm]
  have e : PM = 2 ^ (E + F + 1) - 1 := by have h1 := k.r7; omega
  rw [e, h, h3]
theorem Fk.aS (p : Nat) (hp : U64 p) : bits .and .u64 (p : Int) (SM : Int) = ((p / SM % 2 * SM : Nat) : Int) := by
  have h := and_bit (E + F) (by have := k.b5; omega) p hp
  rw [k.r9, h]
theorem Fk.aQ (p : Nat) (hp : U64 p) : bits .and .u64 (p : Int) (QB : Int) = ((p / QB % 2 * QB : Nat) : Int) := by
  have h := and_bit (F - 1) (by have := k.b4; omega) p hp
  have e : QB = 2 ^ (F - 1) := by
    have h1 := k.r4
    have h2 := k.r8
    have h3 : 2 ^ F = 2 * 2 ^ (F - 1) := by rw [← Nat.pow_succ']; congr 1; have := k.b3; omega
    omega
  rw [e, h]
theorem Fk.oH (p : Nat) (hp : p < HB) : bits .or .u64 (p : Int) (HB : Int) = ((HB + p : Nat) : Int) := by
  have h8 := k.r8
  have h9 := k.s63
  have h3 := k.r3
  rw [h8] at hp ⊢
  exact or_top F p hp (by omega)
theorem Fk.oS (p : Nat) (hp : p < SM) : bits .or .u64 (p : Int) (SM : Int) = ((SM + p : Nat) : Int) := by
  have h8 := k.r9
  have h9 := k.s63
  rw [h8] at hp ⊢
  exact or_top (E + F) p hp (by omega)
/-- The sign, the magnitude, the exponent field of a pattern. -/
def sgn (SM p : Nat) : Bool := p / SM % 2 == 1
def sgw (SM : Nat) (b : Bool) : Nat := if b then SM else 0
theorem Fk.sgn_ne (p : Nat) (hp : U64 p) : (bits .and .u64 (p : Int) (SM : Int) != 0) = sgn SM p := by
  rw [k.aS p hp]
  have h := k.sp
  have h2 : p / SM % 2 = 0 ∨ p / SM % 2 = 1 := by omega
  unfold sgn
  rcases h2 with h2 | h2
  · rw [h2]; simp
  · rw [h2, Nat.one_mul]
    have h3 : ((SM : Nat) : Int) ≠ 0 := by omega
    simpa using h3
theorem Fk.sh (p : Nat) : ((p : Int) / 2 ^ min F 64) = ((p / HB : Nat) : Int) := by
  have h4 := k.b4
  rw [Nat.min_eq_left (by omega), k.r8]
  simp
theorem Fk.mgE (p : Nat) : p % SM / HB = p / HB % (MB + 1) := by
  have e : SM = HB * (MB + 1) := by have h3 := k.r3; have h5 := k.r5; rw [← h3, h5, Nat.mul_add, Nat.mul_comm MB]; omega
  rw [e, Nat.mod_mul_right_div_self]
theorem Fk.frE (p : Nat) : p % SM % HB = p % HB := by
  have e : SM = HB * (MB + 1) := by have h3 := k.r3; have h5 := k.r5; rw [← h3, h5, Nat.mul_add, Nat.mul_comm MB]; omega
  rw [e, Nat.mod_mul_right_mod]
theorem Fk.withSign (m : Nat) (b : Bool) (hm : m < SM) (w : World) : Calls Tryz.prog 88 #[(.agg #[.int .u64 W, .int .u64 E, .int .u64 F]), .int .u64 m, .bool b] w (Rt (.int .u64 (m + sgw SM b : Nat)) w) := by
  have C89 := hidden k.c89
  have e := k.oS m hm
  clear hm k
  go_enter Tryz.func88, Tryz.ntmps88
  cases b
  · go_wp2_with (first | (go_at_call 89; (with_reducible refine (C89.out _).mono ?_); rintro _ _ ⟨rfl, x89, rfl⟩))
    go_ret
    exact ⟨by simp [sgw], Gr.of (by repeat (first | exact Gr.refl _ | refine Gr.alloc ?_ _ | refine Gr.ext ?_ _ | refine Gr.drew ?_))⟩
  · go_wp2_with (first | (go_at_call 89; (with_reducible refine (C89.out _).mono ?_); rintro _ _ ⟨rfl, x89, rfl⟩))
    go_ret
    exact ⟨by simp [sgw, Nat.add_comm], Gr.of (by repeat (first | exact Gr.refl _ | refine Gr.alloc ?_ _ | refine Gr.ext ?_ _ | refine Gr.drew ?_))⟩
theorem Fk.signBit (p : Nat) (hp : U64 p) (w : World) : Calls Tryz.prog 165 #[(.agg #[.int .u64 W, .int .u64 E, .int .u64 F]), .int .u64 p] w (Rt (.bool (sgn SM p)) w) := by
  have C89 := hidden k.c89
  have e := k.sgn_ne p hp
  clear hp k
  go_enter Tryz.func165, Tryz.ntmps165
  go_wp2_with (first | (go_at_call 89; (with_reducible refine (C89.out _).mono ?_); rintro _ _ ⟨rfl, x89, rfl⟩))
  go_ret
  exact ⟨rfl, Gr.of (by repeat (first | exact Gr.refl _ | refine Gr.alloc ?_ _ | refine Gr.ext ?_ _ | refine Gr.drew ?_))⟩
end
end Go.Proofs.Qxb6500680aGreatDoor
