import Derived.Test.Qxb6500680aGreatDoorUe
namespace Go.Proofs.Qxb6500680aGreatDoor
open Go.RowKit Go.BigFrame
set_option linter.unusedSimpArgs false
set_option linter.unusedSectionVars false
attribute [local go_sem] ext_cell_if ext_frozen_if alloc_cell_if alloc_frozen_if ext_size ext_ext calmOp calmAt
theorem shl24 (s n : Nat) (hs : s < 16777216) (hn : n ≤ 24) : IntKind.u64.wrap ((s : Int) * 2 ^ n) = ((s * 2 ^ n : Nat) : Int) := by
  rw [shl_eq, Nat.mod_eq_of_lt]
  have h1 : 2 ^ n ≤ 2 ^ 24 := Nat.pow_le_pow_right (by decide) hn
  have h2 : s * 2 ^ n ≤ s * 2 ^ 24 := Nat.mul_le_mul_left _ h1
  omega
theorem qt_gen (a b : Nat) (h1 : ¬ (2139095040 : Int) ≤ ((a % 2147483648 : Nat) : Int)) (h2 : ¬ (2139095040 : Int) ≤ ((b % 2147483648 : Nat) : Int)) (h3 : a % 2147483648 ≠ 0) (h4 : b % 2147483648 ≠ 0) : qtN 23 127 2147483648 2139095040 8388608 255 a b = quoN (sgn 2147483648 (a ^^^ b)) (nfld a - nfld b) (nsig a) (nsig b) := by
  unfold qtN
  rw [if_neg (show ¬ (2139095040 < a % 2147483648 ∨ 2139095040 < b % 2147483648) by omega), if_neg (show ¬ (a % 2147483648 = 2139095040 ∨ b % 2147483648 = 2139095040) by omega), if_neg h4, if_neg h3, quo_n _ a b h3 h4, sgn_xor]
set_option maxRecDepth 100000 in
set_option maxHeartbeats 1000000 in
theorem s107 (a b : Nat) (ha : (a : Int) < 4294967296) (hb : (b : Int) < 4294967296) : ∃ (r1 r2 : Int), (∀ w, Calls Tryz.prog 36 #[.agg #[.int .u64 32, .int .u64 8, .int .u64 23], .int .u64 a, .int .u64 b] w (Rt (.tuple #[.int .i32 r1, .int .u8 r2]) w)) ∧ ∀ w, Glob w → Calls Tryz.prog 107 #[.int .u32 a, .int .u32 b] w (Rt (.tuple #[.int .i32 r1, .int .u8 r2]) w) := by
  have CC := fun w => fk32.quo24 a b (u_of32 a ha) (u_of32 b hb) w
  refine ⟨_, _, CC, fun w hg => ?_⟩
  have C36 : Hid (∀ w, Calls Tryz.prog 36 #[.agg #[.int .u64 32, .int .u64 8, .int .u64 23], .int .u64 a, .int .u64 b] w (Rt (.tuple #[.int .i32 (qtN 23 127 2147483648 2139095040 8388608 255 a b).1, .int .u8 (qtN 23 127 2147483648 2139095040 8388608 255 a b).2]) w)) := hidden CC
  clear CC
  have e1 := m32 a ha
  have e2 := m32 b hb
  have e3 := xr32 a b (n32 ha) (n32 hb)
  have e4 := g32 (a ^^^ b) (xor_lt32 a b ha hb)
  have G1 := hidden (fun h1 h2 h3 h4 => qt_gen a b h1 h2 h3 h4)
  have G2 := hidden (fun h w => norm32_eq a h w)
  have G3 := hidden (fun h w => norm32_eq b h w)
  have G4 := hidden (fun h => nbd a h)
  have G5 := hidden (fun h => nbd b h)
  obtain ⟨a0, a1, a2, b0, b1, b2⟩ := hg
  clear b0 b1 b2
  generalize qtN 23 127 2147483648 2139095040 8388608 255 a b = R at *
  obtain ⟨r1, r2⟩ := R
  dsimp only at C36 ⊢
  by_cases c3 : a % 2147483648 = 0
  · rw [c3] at e1
    clear e2 e3 e4 G1 G2 G3 G4 G5
    by_cases c2 : (2139095040 : Int) ≤ bits .and .u32 (b : Int) 2147483647
    · go_enter Tryz.func107, Tryz.ntmps107
      go_wp2_with (go_at_call 36; (with_reducible refine (C36.out _).mono ?_); rintro _ _ ⟨rfl, x36, rfl⟩)
      go_ret2
      exact ⟨by simp, Gr.of (by repeat (first | exact Gr.refl _ | refine Gr.alloc ?_ _ | refine Gr.ext ?_ _ | refine Gr.drew ?_))⟩
    · go_enter Tryz.func107, Tryz.ntmps107
      go_wp2_with (go_at_call 36; (with_reducible refine (C36.out _).mono ?_); rintro _ _ ⟨rfl, x36, rfl⟩)
      go_ret2
      exact ⟨by simp, Gr.of (by repeat (first | exact Gr.refl _ | refine Gr.alloc ?_ _ | refine Gr.ext ?_ _ | refine Gr.drew ?_))⟩
  by_cases c4 : b % 2147483648 = 0
  · rw [c4] at e2
    clear e3 e4 G1 G2 G3 G4 G5
    have b3 : (((a % 2147483648 : Nat) : Int) == 0) = false := by rw [nbeq]; simp [c3]
    generalize ((a % 2147483648 : Nat) : Int) = M at *
    by_cases c2 : (2139095040 : Int) ≤ M
    · go_enter Tryz.func107, Tryz.ntmps107
      go_wp2_with (go_at_call 36; (with_reducible refine (C36.out _).mono ?_); rintro _ _ ⟨rfl, x36, rfl⟩)
      go_ret2
      exact ⟨by simp, Gr.of (by repeat (first | exact Gr.refl _ | refine Gr.alloc ?_ _ | refine Gr.ext ?_ _ | refine Gr.drew ?_))⟩
    · go_enter Tryz.func107, Tryz.ntmps107
      go_wp2_with (go_at_call 36; (with_reducible refine (C36.out _).mono ?_); rintro _ _ ⟨rfl, x36, rfl⟩)
      go_ret2
      exact ⟨by simp, Gr.of (by repeat (first | exact Gr.refl _ | refine Gr.alloc ?_ _ | refine Gr.ext ?_ _ | refine Gr.drew ?_))⟩
  by_cases c1 : (2139095040 : Int) ≤ ((a % 2147483648 : Nat) : Int)
  · clear e2 e3 e4 G1 G2 G3 G4 G5 c3 c4
    generalize ((a % 2147483648 : Nat) : Int) = M at *
    go_enter Tryz.func107, Tryz.ntmps107
    go_wp2_with (go_at_call 36; (with_reducible refine (C36.out _).mono ?_); rintro _ _ ⟨rfl, x36, rfl⟩)
    go_ret2
    exact ⟨by simp, Gr.of (by repeat (first | exact Gr.refl _ | refine Gr.alloc ?_ _ | refine Gr.ext ?_ _ | refine Gr.drew ?_))⟩
  by_cases c2 : (2139095040 : Int) ≤ ((b % 2147483648 : Nat) : Int)
  · clear e3 e4 G1 G2 G3 G4 G5 c3 c4
    generalize ((a % 2147483648 : Nat) : Int) = M at *
    generalize ((b % 2147483648 : Nat) : Int) = N at *
    go_enter Tryz.func107, Tryz.ntmps107
    go_wp2_with (go_at_call 36; (with_reducible refine (C36.out _).mono ?_); rintro _ _ ⟨rfl, x36, rfl⟩)
    go_ret2
    exact ⟨by simp, Gr.of (by repeat (first | exact Gr.refl _ | refine Gr.alloc ?_ _ | refine Gr.ext ?_ _ | refine Gr.drew ?_))⟩
  have hR := G1.out c1 c2 c3 c4
  have N1 := hidden (G2.out c3)
  have N2 := hidden (G3.out c4)
  obtain ⟨p1, p2, p3, p4⟩ := G4.out c3
  obtain ⟨p5, p6, p7, p8⟩ := G5.out c4
  have b3 : (((a % 2147483648 : Nat) : Int) == 0) = false := by rw [nbeq]; simp [c3]
  have b4 : (((b % 2147483648 : Nat) : Int) == 0) = false := by rw [nbeq]; simp [c4]
  clear G1 G2 G3 G4 G5 c3 c4 C36 a0 a1 a2 ha hb
  generalize ((a % 2147483648 : Nat) : Int) = M at *
  generalize ((b % 2147483648 : Nat) : Int) = N at *
  generalize sgn 2147483648 (a ^^^ b) = ng at *
  generalize ((a ^^^ b : Nat) : Int) = z at *
  generalize nsig a = s1 at *
  generalize nsig b = s2 at *
  generalize nfld a = x1 at *
  generalize nfld b = x2 at *
  generalize (a : Int) = A at *
  generalize (b : Int) = B at *
  have wd := w64_of (x1 - x2) (by omega) (by omega)
  obtain ⟨d, hd⟩ : ∃ d, x1 - x2 = d := ⟨_, rfl⟩
  replace wd : wrap64 (x1 - x2) = d := wd.trans hd
  rw [hd] at hR
  clear hd p3 p4 p7 p8
  unfold quoN at hR
  by_cases d0 : d < 0
  · rw [if_pos d0] at hR
    cases hR
    clear p1 p2 p5 p6 e3 e4
    go_enter Tryz.func107, Tryz.ntmps107
    go_wp2_with (go_at_call 201; first | ((with_reducible refine (N1.out _).mono ?_); rintro _ _ ⟨rfl, x201, rfl⟩) | ((with_reducible refine (N2.out _).mono ?_); rintro _ _ ⟨rfl, y201, rfl⟩))
    go_ret2
    exact ⟨by first | simp, Gr.of (by repeat (first | exact Gr.refl _ | refine Gr.alloc ?_ _ | refine Gr.ext ?_ _ | refine Gr.drew ?_))⟩
  rw [if_neg d0] at hR
  by_cases d1 : 24 < d
  · rw [if_pos d1] at hR
    cases hR
    clear p1 p2 p5 p6 e3 e4
    go_enter Tryz.func107, Tryz.ntmps107
    go_wp2_with (go_at_call 201; first | ((with_reducible refine (N1.out _).mono ?_); rintro _ _ ⟨rfl, x201, rfl⟩) | ((with_reducible refine (N2.out _).mono ?_); rintro _ _ ⟨rfl, y201, rfl⟩))
    go_ret2
    exact ⟨by first | simp, Gr.of (by repeat (first | exact Gr.refl _ | refine Gr.alloc ?_ _ | refine Gr.ext ?_ _ | refine Gr.drew ?_))⟩
  rw [if_neg d1] at hR
  obtain ⟨wu, hdn⟩ := quonum d d0 d1
  have hdn2 : d.toNat ≤ 24 := by omega
  have hsh := shl24 s1 d.toNat p2 hdn2
  have hq : ((s1 * 2 ^ d.toNat : Nat) : Int) / (s2 : Int) = ((s1 * 2 ^ d.toNat / s2 : Nat) : Int) := by simp
  have hq2 : ((s1 * 2 ^ d.toNat : Nat) : Int).tdiv (s2 : Int) = ((s1 * 2 ^ d.toNat / s2 : Nat) : Int) := rfl
  have hs1 : (s1 : Int) < 16777216 := by omega
  have hs2 : (s2 : Int) < 16777216 := by omega
  have hs0 : (0 : Int) < (s2 : Int) := by omega
  have hs4 : (0 : Int) ≤ (s1 : Int) := by omega
  have hqw : (0 : Int) ≤ ((s1 * 2 ^ d.toNat / s2 : Nat) : Int) := Int.natCast_nonneg _
  have hqx : ((s1 * 2 ^ d.toNat / s2 : Nat) : Int) ≤ 281474976710656 := by
    have h1 : s1 * 2 ^ d.toNat / s2 ≤ s1 * 2 ^ d.toNat := Nat.div_le_self _ _
    have h2 : 2 ^ d.toNat ≤ 2 ^ 24 := Nat.pow_le_pow_right (by decide) hdn2
    have h3 : s1 * 2 ^ d.toNat ≤ s1 * 2 ^ 24 := Nat.mul_le_mul_left _ h2
    generalize s1 * 2 ^ d.toNat / s2 = q at *
    omega
  have hs3 : ((s2 : Int) == 0) = false := by rw [beq_eq_false_iff_ne]; omega
  generalize s1 * 2 ^ d.toNat / s2 = q at *
  generalize s1 * 2 ^ d.toNat = P at *
  generalize d.toNat = dn at *
  generalize (s1 : Int) = S1 at *
  generalize (s2 : Int) = S2 at *
  generalize (P : Int) = P1 at *
  have HX := hidden (And.intro hs4 <| And.intro hqw <| And.intro hqx <| And.intro hs1 <| And.intro hs2 <| And.intro wu (And.intro hsh (And.intro hq (And.intro hq2 (And.intro hs3 (And.intro hs0 hdn2))))))
  clear p1 p2 p5 p6 hdn wu hsh hq hq2 hs3 hs0 hdn2 hs1 hs2 hs4 hqw hqx
  by_cases c5 : 16777216 ≤ q
  · rw [if_pos c5] at hR
    cases hR
    have c6 : (16777216 : Int) ≤ (q : Int) := by omega
    generalize (q : Int) = Q1 at *
    have C6 := hidden c6
    clear c5 e3 e4 c6
    go_enter Tryz.func107, Tryz.ntmps107
    go_upto_region 11 with (go_at_call 201; first | ((with_reducible refine (N1.out _).mono ?_); rintro _ _ ⟨rfl, x201, rfl⟩) | ((with_reducible refine (N2.out _).mono ?_); rintro _ _ ⟨rfl, y201, rfl⟩))
    obtain ⟨hs4, hqw, hqx, hs1, hs2, wu, hsh, hq, hq2, hs3, hs0, hdn2⟩ := HX.out
    have c6 := C6.out
    go_wp2_with (fail)
    go_ret2
    exact ⟨by first | simp [HW.out, HW2.out] | simp, Gr.of (by repeat (first | exact Gr.refl _ | refine Gr.alloc ?_ _ | refine Gr.ext ?_ _ | refine Gr.drew ?_))⟩
  · rw [if_neg c5] at hR
    have c6 : ¬ (16777216 : Int) ≤ (q : Int) := by omega
    have hw : wrap32 (q : Int) = (q : Int) := by unfold wrap32; omega
    have hw2 : wrap32 (-(q : Int)) = -(q : Int) := by unfold wrap32; omega
    have C6 := hidden c6
    have HW := hidden hw
    have HW2 := hidden hw2
    clear c5 c6 hw hw2
    generalize (q : Int) = Q1 at *
    cases ng
    · rw [if_neg (by decide)] at hR
      cases hR
      go_enter Tryz.func107, Tryz.ntmps107
      go_upto_region 11 with (go_at_call 201; first | ((with_reducible refine (N1.out _).mono ?_); rintro _ _ ⟨rfl, x201, rfl⟩) | ((with_reducible refine (N2.out _).mono ?_); rintro _ _ ⟨rfl, y201, rfl⟩))
      obtain ⟨hs4, hqw, hqx, hs1, hs2, wu, hsh, hq, hq2, hs3, hs0, hdn2⟩ := HX.out
      have c6 := C6.out
      go_wp2_with (fail)
      go_ret2
      exact ⟨by first | simp [HW.out, HW2.out] | simp, Gr.of (by repeat (first | exact Gr.refl _ | refine Gr.alloc ?_ _ | refine Gr.ext ?_ _ | refine Gr.drew ?_))⟩
    · rw [if_pos rfl] at hR
      cases hR
      go_enter Tryz.func107, Tryz.ntmps107
      go_upto_region 11 with (go_at_call 201; first | ((with_reducible refine (N1.out _).mono ?_); rintro _ _ ⟨rfl, x201, rfl⟩) | ((with_reducible refine (N2.out _).mono ?_); rintro _ _ ⟨rfl, y201, rfl⟩))
      obtain ⟨hs4, hqw, hqx, hs1, hs2, wu, hsh, hq, hq2, hs3, hs0, hdn2⟩ := HX.out
      have c6 := C6.out
      go_wp2_with (fail)
      go_ret2
      exact ⟨by first | simp [HW.out, HW2.out] | simp, Gr.of (by repeat (first | exact Gr.refl _ | refine Gr.alloc ?_ _ | refine Gr.ext ?_ _ | refine Gr.drew ?_))⟩
end Go.Proofs.Qxb6500680aGreatDoor
