import Derived.Test.Qxb6500680aGreatDoorUd
import Derived.Test.Qxb6500680aGreatDoorLen32
namespace Go.Proofs.Qxb6500680aGreatDoor
open Go.RowKit Go.BigFrame
set_option linter.unusedSimpArgs false
set_option linter.unusedSectionVars false
attribute [local go_sem] ext_cell_if ext_frozen_if alloc_cell_if alloc_frozen_if ext_size ext_ext calmOp calmAt
theorem len32_u (x : Nat) (h : (x : Int) < 4294967296) (w : World) : Calls Tryz.prog 198 #[.int .u32 x] w (Rt (.int .i64 (Lib.bitLen x : Nat)) w) := by
  refine (Tryz.bits_Len32 x w (by omega) (by omega)).mono ?_
  intro e w' h
  obtain ⟨h1, h2⟩ := h
  exact ⟨by simpa using h1, by rw [h2]; exact Gr.of (Gr.refl _)⟩
theorem nb (y : Nat) (h0 : y ≠ 0) (h : y < 2 ^ 24) : 0 < Lib.bitLen y ∧ Lib.bitLen y ≤ 24 ∧ 8388608 ≤ y * 2 ^ (24 - Lib.bitLen y) ∧ y * 2 ^ (24 - Lib.bitLen y) < 16777216 ∧ (8388608 ≤ y → Lib.bitLen y = 24) := by
  obtain ⟨p1, p2, p3⟩ := aux_bd 64 y (by omega) h0
  change 0 < Lib.bitLen y at p1
  change 2 ^ (Lib.bitLen y - 1) ≤ y at p2
  change y < 2 ^ Lib.bitLen y at p3
  generalize Lib.bitLen y = L at *
  have hL : L ≤ 24 := by
    have := (Nat.pow_lt_pow_iff_right (a := 2) (by decide)).1 (Nat.lt_of_le_of_lt p2 h)
    omega
  refine ⟨p1, hL, ?_, ?_, fun h2 => ?_⟩
  · have e : (8388608 : Nat) = 2 ^ (L - 1) * 2 ^ (24 - L) := by rw [← Nat.pow_add, show L - 1 + (24 - L) = 23 by omega]
    rw [e]
    exact Nat.mul_le_mul_right _ p2
  · have e : (16777216 : Nat) = 2 ^ L * 2 ^ (24 - L) := by rw [← Nat.pow_add, show L + (24 - L) = 24 by omega]
    rw [e]
    exact Nat.mul_lt_mul_of_pos_right p3 (Nat.pos_of_ne_zero (by simp))
  · have h3 : (2 : Nat) ^ 23 < 2 ^ L := Nat.lt_of_le_of_lt h2 p3
    have := (Nat.pow_lt_pow_iff_right (a := 2) (by decide)).1 h3
    omega
/-- The normed parts of a binary32 pattern. -/
def nsig (a : Nat) : Nat := usig 8388608 255 a * 2 ^ (24 - Lib.bitLen (usig 8388608 255 a))
def nfld (a : Nat) : Int := uexp 23 127 8388608 255 a + 150 - ((24 - Lib.bitLen (usig 8388608 255 a) : Nat) : Int)
theorem us24 (a : Nat) : usig 8388608 255 a < 2 ^ 24 := by have := fk32.usig_lt a; omega
theorem lsig_n (a : Nat) (h : a % 2147483648 ≠ 0) : lsig 8388608 255 a = nsig a * 1099511627776 := by
  have h2 := (nb _ (fk32.usig0 a h) (us24 a)).2.1
  unfold lsig nsig
  rw [Nat.mul_assoc, show (1099511627776 : Nat) = 2 ^ 40 by decide, ← Nat.pow_add, show 24 - Lib.bitLen (usig 8388608 255 a) + 40 = 64 - Lib.bitLen (usig 8388608 255 a) by omega]
theorem lexp_n (a : Nat) (h : a % 2147483648 ≠ 0) : lexp 23 127 8388608 255 a = nfld a - 190 := by
  have h2 := (nb _ (fk32.usig0 a h) (us24 a)).2.1
  unfold lexp nfld
  omega
theorem nbd (a : Nat) (h : a % 2147483648 ≠ 0) : 8388608 ≤ nsig a ∧ nsig a < 16777216 ∧ -3000 ≤ nfld a ∧ nfld a ≤ 3000 := by
  obtain ⟨h1, h2, h3, h4, h5⟩ := nb _ (fk32.usig0 a h) (us24 a)
  have h6 := fk32.uexp_bd a
  refine ⟨h3, h4, ?_, ?_⟩ <;> unfold nfld <;> omega
theorem quoN_mul (ng : Bool) (d : Int) (s s' k : Nat) (hk : 0 < k) : quoN ng d (s * k) (s' * k) = quoN ng d s s' := by
  unfold quoN
  rw [show s * k * 2 ^ d.toNat = s * 2 ^ d.toNat * k by rw [Nat.mul_assoc, Nat.mul_comm k, Nat.mul_assoc], Nat.mul_div_mul_right _ _ hk]
theorem quo_n (ng : Bool) (a b : Nat) (ha : a % 2147483648 ≠ 0) (hb : b % 2147483648 ≠ 0) : quoN ng (lexp 23 127 8388608 255 a - lexp 23 127 8388608 255 b) (lsig 8388608 255 a) (lsig 8388608 255 b) = quoN ng (nfld a - nfld b) (nsig a) (nsig b) := by
  rw [lsig_n a ha, lsig_n b hb, lexp_n a ha, lexp_n b hb, quoN_mul _ _ _ _ _ (by decide)]
  congr 1
  omega
theorem nn1 (a : Nat) (h : a % 2147483648 ≠ 0) (hq : a % 2147483648 / 8388608 ≠ 0) : nsig a = 8388608 + a % 8388608 ∧ nfld a = ((a % 2147483648 / 8388608 : Nat) : Int) := by
  obtain ⟨h1, h2, h3, h4, h5⟩ := nb _ (fk32.usig0 a h) (us24 a)
  have hq2 : a / 8388608 % (255 + 1) = a % 2147483648 / 8388608 := (fk32.mgE a).symm
  have hu : usig 8388608 255 a = 8388608 + a % 8388608 := by unfold usig; rw [hq2, if_neg hq]
  have hL : Lib.bitLen (usig 8388608 255 a) = 24 := h5 (by omega)
  unfold nsig nfld
  rw [hL]
  refine ⟨by rw [hu]; omega, ?_⟩
  unfold uexp
  rw [hq2, if_neg hq]
  omega
theorem nn0 (a : Nat) (h : a % 2147483648 ≠ 0) (hq : a % 2147483648 / 8388608 = 0) : Lib.bitLen (a % 8388608) ≤ 24 ∧ a % 8388608 * 2 ^ (24 - Lib.bitLen (a % 8388608)) < 16777216 ∧ nsig a = a % 8388608 * 2 ^ (24 - Lib.bitLen (a % 8388608)) ∧ nfld a = 1 - ((24 - Lib.bitLen (a % 8388608) : Nat) : Int) := by
  obtain ⟨h1, h2, h3, h4, h5⟩ := nb _ (fk32.usig0 a h) (us24 a)
  have hq2 : a / 8388608 % (255 + 1) = a % 2147483648 / 8388608 := (fk32.mgE a).symm
  have hu : usig 8388608 255 a = a % 8388608 := by unfold usig; rw [hq2, if_pos hq]
  rw [hu] at h2 h4
  refine ⟨h2, h4, by unfold nsig; rw [hu], ?_⟩
  unfold nfld
  rw [hu]
  unfold uexp
  rw [hq2, if_pos hq]
  omega
set_option maxRecDepth 100000 in
theorem norm32_eq (a : Nat) (h : a % 2147483648 ≠ 0) (w : World) : Calls Tryz.prog 201 #[.int .u32 (a % 2147483648 : Nat)] w (Rt (.tuple #[.int .u32 (nsig a : Nat), .int .i64 (nfld a)]) w) := by
  have e1 : ((a % 2147483648 : Nat) : Int) / 8388608 = ((a % 2147483648 / 8388608 : Nat) : Int) := by omega
  have e2 := f32 (a % 2147483648) (by omega)
  rw [show a % 2147483648 % 8388608 = a % 8388608 by omega] at e2
  by_cases hq : a % 2147483648 / 8388608 = 0
  · obtain ⟨n1, n2, n3, n4⟩ := nn0 a h hq
    have C198 := hidden (fun w => len32_u (a % 8388608) (by omega) w)
    rw [hq] at e1
    rw [n3, n4]
    have hsh : IntKind.u32.wrap (((a % 8388608 : Nat) : Int) * 2 ^ (24 - Lib.bitLen (a % 8388608))) = ((a % 8388608 * 2 ^ (24 - Lib.bitLen (a % 8388608)) : Nat) : Int) := by
      rw [show ((a % 8388608 : Nat) : Int) * 2 ^ (24 - Lib.bitLen (a % 8388608)) = ((a % 8388608 * 2 ^ (24 - Lib.bitLen (a % 8388608)) : Nat) : Int) by simp, IntKind.wrap_u32]
      omega
    obtain ⟨L, hL⟩ : ∃ L, Lib.bitLen (a % 8388608) = L := ⟨_, rfl⟩
    rw [hL] at n1 n2 hsh C198 ⊢
    obtain ⟨D, hD⟩ : ∃ D, 24 - L = D := ⟨_, rfl⟩
    rw [hD] at n2 hsh ⊢
    have e3 : (24 : Int) - (L : Int) = (D : Int) := by omega
    have hDb : D ≤ 24 := by omega
    have hLb : (L : Int) ≤ 24 := by omega
    generalize a % 8388608 * 2 ^ D = V at *
    generalize a % 8388608 = fr at *
    generalize ((a % 2147483648 : Nat) : Int) = M at *
    clear h hq n3 n4 n2 n1 hL hD
    go_enter Tryz.func201, Tryz.ntmps201
    go_wp2_with (go_at_call 198; (with_reducible refine (C198.out _).mono ?_); rintro _ _ ⟨rfl, x198, rfl⟩)
    go_ret2
    exact ⟨by simp [hsh], Gr.of (by repeat (first | exact Gr.refl _ | refine Gr.alloc ?_ _ | refine Gr.ext ?_ _ | refine Gr.drew ?_))⟩
  · obtain ⟨n1, n2⟩ := nn1 a h hq
    have e3 : bits .or .u32 ((a % 8388608 : Nat) : Int) 8388608 = ((8388608 + a % 8388608 : Nat) : Int) := (or_32 (a % 8388608) 8388608 (by omega) (by decide)).trans (fk32.oH (a % 8388608) (by omega))
    rw [n1, n2]
    have hq2 : ((a % 2147483648 / 8388608 : Nat) : Int) ≤ 255 := by omega
    have b1 : (((a % 2147483648 / 8388608 : Nat) : Int) == 0) = false := by rw [nbeq]; simp [hq]
    generalize a % 2147483648 / 8388608 = q at *
    generalize 8388608 + a % 8388608 = G at *
    generalize a % 8388608 = fr at *
    generalize ((a % 2147483648 : Nat) : Int) = M at *
    clear h hq n1 n2
    go_enter Tryz.func201, Tryz.ntmps201
    go_wp2_with (fail)
    go_ret2
    exact ⟨by simp, Gr.of (by repeat (first | exact Gr.refl _ | refine Gr.alloc ?_ _ | refine Gr.ext ?_ _ | refine Gr.drew ?_))⟩
theorem sgn_tb (p : Nat) : sgn 2147483648 p = p.testBit 31 := by
  unfold sgn
  rw [Nat.testBit_eq_decide_div_mod_eq]
  rfl
theorem sgn_xor (a b : Nat) : sgn 2147483648 (a ^^^ b) = (sgn 2147483648 a != sgn 2147483648 b) := by
  rw [sgn_tb, sgn_tb, sgn_tb, Nat.testBit_xor]
end Go.Proofs.Qxb6500680aGreatDoor
