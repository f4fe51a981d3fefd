import Derived.Test.Qxb6500680aGreatDoorUi
import Derived.Test.Qxb6500680aGreatDoorUj
namespace Go.Proofs.Qxb6500680aGreatDoor
open Go.RowKit Go.BigFrame
set_option linter.unusedSimpArgs false
set_option linter.unusedSectionVars false
attribute [local go_sem] ext_cell_if ext_frozen_if alloc_cell_if alloc_frozen_if ext_size ext_ext calmOp calmAt
/-- The exponent field, one where it is zero. -/
def fdN (HB MB p : Nat) : Nat := if p / HB % (MB + 1) = 0 then 1 else p / HB % (MB + 1)
section
variable {W E F BI SM MM PM HB FM EM QB MB : Nat} (k : Fk W E F BI SM MM PM HB FM EM QB MB)
include k
theorem Fk.uexp_fd (p : Nat) : uexp F BI HB MB p = ((fdN HB MB p : Nat) : Int) - BI - F := by
  unfold uexp fdN
  by_cases c : p / HB % (MB + 1) = 0
  · rw [if_pos c, if_pos c]; rfl
  · rw [if_neg c, if_neg c]
theorem Fk.fd_bd (p : Nat) (h : ¬ EM ≤ p % SM) : 1 ≤ fdN HB MB p ∧ fdN HB MB p ≤ 2 * BI := by
  have h1 : p / HB % (MB + 1) < MB := by
    rw [← k.mgE]
    exact (Nat.div_lt_iff_lt_mul k.hp).2 (by rw [← k.r5]; exact Nat.lt_of_not_le h)
  have h6 := k.r6
  have b1 := k.b1
  unfold fdN
  generalize p / HB % (MB + 1) = z at *
  split <;> omega
theorem Fk.mi_lt (n : Int) (p : Nat) : (mulIntN F BI SM EM HB QB MB n p).1 < 2 * SM := by
  unfold mulIntN
  have h3 := k.r3
  have h := k.hp
  have hs : ∀ b, sgw SM b ≤ SM := by intro b; unfold sgw; split <;> omega
  split
  · exact quiet_lt k p
  · split
    · split
      · exact dnan_lt k
      · have := hs (sgn SM p != decide (n < 0))
        dsimp only
        omega
    · split
      · have := hs (sgn SM p != decide (n < 0))
        dsimp only
        omega
      · exact k.rp_lt _ _ _ _ _
theorem Fk.usig_ge (p : Nat) (h : p / HB % (MB + 1) ≠ 0) : HB ≤ usig HB MB p := by unfold usig; rw [if_neg h]; exact Nat.le_add_right _ _
theorem Fk.mulX (n : Int) (p : Nat) (n0 : n ≠ 0) (hn : U64 n.natAbs) (h1 : ¬ EM ≤ p % SM) (h3 : p % SM ≠ 0) (hD : len128 (usig HB MB p * n.natAbs / 18446744073709551616) (usig HB MB p * n.natAbs % 18446744073709551616) ≤ F + 64) : mulIntN F BI SM EM HB QB MB n p = shN F HB EM SM (sgn SM p != decide (n < 0)) (fdN HB MB p) (usig HB MB p * n.natAbs) (len128 (usig HB MB p * n.natAbs / 18446744073709551616) (usig HB MB p * n.natAbs % 18446744073709551616)) := by
  have u1 := k.usig_u p
  have u0 := k.usig0 p h3
  obtain ⟨f1, f2⟩ := k.fd_bd p h1
  have hna : n.natAbs ≠ 0 := by omega
  have hu := mulU u1 hn
  have hm := modU (usig HB MB p * n.natAbs)
  have hP : usig HB MB p * n.natAbs ≠ 0 := Nat.mul_ne_zero u0 hna
  have hdm := Nat.div_add_mod' (usig HB MB p * n.natAbs) 18446744073709551616
  have hge : p / HB % (MB + 1) ≠ 0 → 2 ^ F ≤ usig HB MB p * n.natAbs := fun h => by rw [← k.r8]; exact Nat.le_trans (k.usig_ge p h) (Nat.le_mul_of_pos_right _ (Nat.pos_of_ne_zero hna))
  have hX := lenX _ _ hu hm (by rw [hdm]; exact hP)
  rw [hdm] at hX
  have hc : fdN HB MB p = 1 ∨ F + 1 ≤ len128 (usig HB MB p * n.natAbs / 18446744073709551616) (usig HB MB p * n.natAbs % 18446744073709551616) := by
    by_cases c : p / HB % (MB + 1) = 0
    · left; unfold fdN; rw [if_pos c]
    · right
      exact (Nat.pow_lt_pow_iff_right (by decide)).1 (Nat.lt_of_le_of_lt (hge c) hX.2.2)
  have hr := k.rpX (sgn SM p != decide (n < 0)) (fdN HB MB p) _ _ hu hm (by rw [hdm]; exact hP) f1 f2 hc hD
  rw [hdm] at hr
  have g1 : ¬ EM < p % SM := fun h => h1 (Nat.le_of_lt h)
  have g2 : ¬ p % SM = EM := fun h => h1 (Nat.le_of_eq h.symm)
  have g3 : ¬ (p % SM = 0 ∨ n = 0) := fun h => h.elim h3 n0
  unfold mulIntN
  rw [if_neg g1, if_neg g2, if_neg g3, k.uexp_fd p]
  exact hr
theorem Fk.hF_of (a : Nat) : ((((a % SM / HB : Nat) : Int) == 0) = true ∧ ((fdN HB MB a : Nat) : Int) = 1 ∧ ((usig HB MB a : Nat) : Int) = ((a % SM % HB : Nat) : Int)) ∨ ((((a % SM / HB : Nat) : Int) == 0) = false ∧ ((fdN HB MB a : Nat) : Int) = ((a % SM / HB : Nat) : Int) ∧ bits .or .u64 ((a % SM % HB : Nat) : Int) (HB : Int) = ((usig HB MB a : Nat) : Int)) := by
  have h1 := k.oH (a % HB) (Nat.mod_lt _ k.hp)
  rw [k.mgE, k.frE, nbeq]
  unfold fdN usig
  by_cases c : a / HB % (MB + 1) = 0
  · left
    rw [if_pos c, if_pos c]
    simp [c]
  · right
    rw [if_neg c, if_neg c]
    refine ⟨by simpa using c, rfl, h1⟩
end
theorem sgn_w32 (n : Int) (h0 : -2147483648 ≤ n) (h1 : n ≤ 2147483647) : sgn 2147483648 (n % 4294967296).toNat = decide (n < 0) := by
  unfold sgn
  by_cases c : n < 0
  · have h : (n % 4294967296).toNat / 2147483648 % 2 = 1 := by omega
    rw [h]
    simp [c]
  · have h : (n % 4294967296).toNat / 2147483648 % 2 = 0 := by omega
    rw [h]
    simp [c]
theorem hL_of (P L c : Nat) (hP : U64 P) (hL : L ≤ c + 62) : (¬ (c : Int) < (L : Int) ∧ L - c = 0 ∧ ((P / 2 ^ (L - c) : Nat) : Int) = (P : Int) ∧ bits .and .u64 (P : Int) 0 = 0 ∧ ((P % 2 ^ (L - c) : Nat) : Int) = 0) ∨ ((c : Int) < (L : Int) ∧ (L : Int) - (c : Int) = ((L - c : Nat) : Int) ∧ (P : Int) / 2 ^ (L - c) = ((P / 2 ^ (L - c) : Nat) : Int) ∧ IntKind.u64.wrap (2 ^ (L - c)) = ((2 ^ (L - c) : Nat) : Int) ∧ IntKind.u64.wrap (((2 ^ (L - c) : Nat) : Int) - 1) = ((2 ^ (L - c) - 1 : Nat) : Int) ∧ bits .and .u64 (P : Int) ((2 ^ (L - c) - 1 : Nat) : Int) = ((P % 2 ^ (L - c) : Nat) : Int)) := by
  by_cases h : L ≤ c
  · left
    have e : L - c = 0 := by omega
    have ha := and_low 0 (by decide) P hP
    rw [e]
    refine ⟨by omega, rfl, by simp, ?_, by simp [Nat.mod_one]⟩
    have e0 : ((2 ^ 0 - 1 : Nat) : Int) = 0 := rfl
    rw [e0, Nat.pow_zero, Nat.mod_one] at ha
    exact ha
  · right
    obtain ⟨D, hD⟩ : ∃ D, L - c = D := ⟨_, rfl⟩
    rw [hD]
    have hD2 : D ≤ 62 := by omega
    refine ⟨by omega, by omega, pw_div P D, shl1 D hD2, ?_, and_low D (by omega) P hP⟩
    have h1 : 2 ^ D ≤ 2 ^ 62 := Nat.pow_le_pow_right (by decide) hD2
    have h2 : 0 < 2 ^ D := Nat.pos_of_ne_zero (by simp)
    clear hP hL hD
    generalize 2 ^ D = p at *
    rw [IntKind.wrap_u64]
    omega
theorem tie_pre (P D : Nat) (hD : D ≤ 63) : P % 2 ^ D ≠ 0 → 1 ≤ D ∧ D ≤ 63 := by
  intro h
  refine ⟨?_, hD⟩
  by_cases c : D = 0
  · rw [c, Nat.pow_zero, Nat.mod_one] at h; exact absurd rfl h
  · omega
theorem num106 (FD dn ku : Nat) (h1 : 1 ≤ FD) (h2 : FD ≤ 255) (h3 : dn ≤ 40) (h4 : ku ≤ 16777216) : IntKind.u64.wrap ((FD : Int) + (dn : Int)) = ((FD + dn : Nat) : Int) ∧ IntKind.u64.wrap (((FD + dn : Nat) : Int) - 1) = ((FD + dn - 1 : Nat) : Int) ∧ IntKind.u64.wrap (((FD + dn - 1 : Nat) : Int) * 8388608) = (((FD + dn - 1) * 8388608 : Nat) : Int) ∧ IntKind.u64.wrap ((((FD + dn - 1) * 8388608 : Nat) : Int) + (ku : Int)) = (((FD + dn - 1) * 8388608 + ku : Nat) : Int) := by
  simp only [IntKind.wrap_u64]
  omega
theorem mi32_P (n : Int) (a : Nat) (n0 : -2147483648 ≤ n) (n1 : n ≤ 2147483647) : usig 8388608 255 a * n.natAbs < 2 ^ 55 := by
  have h1 := us24 a
  have h2 : n.natAbs ≤ 2 ^ 31 := by omega
  have h3 : usig 8388608 255 a * n.natAbs ≤ usig 8388608 255 a * 2 ^ 31 := Nat.mul_le_mul_left _ h2
  generalize usig 8388608 255 a * n.natAbs = P at *
  omega
theorem len_bd (P m : Nat) (hP : P < 2 ^ m) (h0 : P ≠ 0) (hu : U64 P) : Lib.bitLen P ≤ m ∧ 2 ^ (Lib.bitLen P - 1) ≤ P ∧ P < 2 ^ Lib.bitLen P := by
  obtain ⟨l0, l1, l2⟩ := aux_bd 64 P hu h0
  change 0 < Lib.bitLen P at l0
  change 2 ^ (Lib.bitLen P - 1) ≤ P at l1
  refine ⟨?_, l1, l2⟩
  have := (Nat.pow_lt_pow_iff_right (a := 2) (by decide)).1 (Nat.lt_of_le_of_lt l1 hP)
  omega
theorem kp_lt (F x L : Nat) (l2 : x < 2 ^ L) : x / 2 ^ (L - (F + 1)) < 2 * 2 ^ F := by
    refine (Nat.div_lt_iff_lt_mul (Nat.pos_of_ne_zero (by simp))).2 ?_
    rw [← Nat.pow_succ', ← Nat.pow_add]
    exact Nat.lt_of_lt_of_le l2 (Nat.pow_le_pow_right (by decide) (by omega))
theorem shUp_le (F x L : Nat) (l2 : x < 2 ^ L) : shUp F x L ≤ 2 * 2 ^ F := by
  have h := kp_lt F x L l2
  unfold shUp
  split
  · exact h
  · exact Nat.le_of_lt h
set_option maxRecDepth 100000 in
set_option maxHeartbeats 1000000 in
theorem s106 (a : Nat) (n : Int) (ha : (a : Int) < 4294967296) (n0 : -2147483648 ≤ n) (n1 : n ≤ 2147483647) : ∃ (r : Nat) (fl : Int), r < 2 * 2147483648 ∧ (∀ w, Calls Tryz.prog 35 #[.agg #[.int .u64 32, .int .u64 8, .int .u64 23], .int .i64 n, .int .u64 a, .int .u8 0] w (Rt (.tuple #[.int .u64 r, .int .u8 fl]) w)) ∧ ∀ w, Glob w → Calls Tryz.prog 106 #[.int .i32 n, .int .u32 a] w (Rt (.tuple #[.int .u32 r, .int .u8 fl]) w) := by
  have CC := fun w => fk32.mulInt n a (by omega) (by omega) (u_of32 a ha) w
  have hlt := fk32.mi_lt n a
  refine ⟨_, _, hlt, CC, fun w hg => ?_⟩
  by_cases cg : ¬ 2139095040 ≤ a % 2147483648 ∧ a % 2147483648 ≠ 0 ∧ n ≠ 0
  · obtain ⟨c1, c3, c4⟩ := cg
    clear CC hlt hg
    have hP := mi32_P n a n0 n1
    have hP0 : usig 8388608 255 a * n.natAbs ≠ 0 := Nat.mul_ne_zero (fk32.usig0 a c3) (by omega)
    have hPu : U64 (usig 8388608 255 a * n.natAbs) := by unfold U64; omega
    obtain ⟨q1, q2, q3⟩ := len_bd _ 55 hP hP0 hPu
    have hX := fk32.mulX n a c4 (by unfold U64; omega) c1 c3
    rw [Nat.div_eq_of_lt hPu, Nat.mod_eq_of_lt hPu] at hX
    have eL : len128 0 (usig 8388608 255 a * n.natAbs) = Lib.bitLen (usig 8388608 255 a * n.natAbs) := by unfold len128; rw [if_pos rfl]
    rw [eL] at hX
    have hX := hX (by clear hX; omega)
    rw [hX]
    have hF := fk32.hF_of a
    obtain ⟨f1, f2⟩ := fk32.fd_bd a c1
    have C96 := hidden (fun w => abs64 n (by omega) (by omega) w)
    have e11 : IntKind.u64.wrap (((usig 8388608 255 a : Nat) : Int) * ((n.natAbs : Nat) : Int)) = ((usig 8388608 255 a * n.natAbs : Nat) : Int) := by rw [← Int.natCast_mul, wr_mod, Nat.mod_eq_of_lt hPu]
    have hku := shUp_le 23 _ _ q3
    clear hX q2 q3 eL hP0
    generalize usig 8388608 255 a * n.natAbs = P at *
    generalize hLL : Lib.bitLen P = L at *
    have C200 : Hid (∀ w, Calls Tryz.prog 200 #[.int .u64 (P : Int)] w (Rt (.int .i64 (L : Int)) w)) := hidden (fun w => hLL ▸ len64_u P hPu w)
    have hN1 : (n % 4294967296).toNat < 4294967296 := by omega
    have hsx : sgn 2147483648 (a ^^^ (n % 4294967296).toNat) = (sgn 2147483648 a != decide (n < 0)) := by rw [sgn_xor, sgn_w32 n n0 n1]
    have hxl := xor_lt32 a (n % 4294967296).toNat ha (by omega)
    have hSG := s32w (a ^^^ (n % 4294967296).toNat) hxl
    rw [hsx] at hSG
    generalize (sgn 2147483648 a != decide (n < 0)) = ng at *
    have hod := and1 (P / 2 ^ (L - 24)) (div_u hPu _)
    have C199 := hidden (fun w => ties_eq (P % 2 ^ (L - 24)) (L - 24) (P / 2 ^ (L - 24) % 2 == 1) (tie_pre P (L - 24) (by omega)) w)
    have hk1 : IntKind.u64.wrap (((P / 2 ^ (L - 24) : Nat) : Int) + 1) = ((P / 2 ^ (L - 24) + 1 : Nat) : Int) := by
      rw [wr_add1, Nat.mod_eq_of_lt]
      have h1 : P / 2 ^ (L - 24) ≤ P := Nat.div_le_self _ _
      generalize P / 2 ^ (L - 24) = q at *
      clear hod C199 C200 C96 hF f1 f2 e11 hLL hSG hsx
      omega
    have hT : (if tieN (P % 2 ^ (L - 24)) (L - 24) (P / 2 ^ (L - 24) % 2 == 1) then ((P / 2 ^ (L - 24) + 1 : Nat) : Int) else ((P / 2 ^ (L - 24) : Nat) : Int)) = ((shUp 23 P L : Nat) : Int) := by
      unfold shUp
      split <;> rfl
    obtain ⟨m1, m2, m3, m4⟩ := num106 (fdN 8388608 255 a) (L - 24) (shUp 23 P L) f1 (by omega) (by omega) hku
    unfold shN
    have hs31 : ∀ v : Nat, v < 2147483648 → bits .or .u32 ((sgw 2147483648 ng : Nat) : Int) (v : Int) = ((sgw 2147483648 ng + v : Nat) : Int) := fun v hv => or_s ng v hv
    refine w106 a n ((a % 2147483648 : Nat) : Int) (((n % 4294967296).toNat : Nat) : Int) ((a ^^^ (n % 4294967296).toNat : Nat) : Int) ((sgw 2147483648 ng : Nat) : Int) ((a % 2147483648 / 8388608 : Nat) : Int) ((a % 2147483648 % 8388608 : Nat) : Int) ((fdN 8388608 255 a : Nat) : Int) ((usig 8388608 255 a : Nat) : Int) ((n.natAbs : Nat) : Int) (P : Int) (L : Int) ((P / 2 ^ (L - 24) : Nat) : Int) ((P / 2 ^ (L - 24) + 1 : Nat) : Int) ((P % 2 ^ (L - 24) : Nat) : Int) ((shUp 23 P L : Nat) : Int) ((2 ^ (L - 24) : Nat) : Int) ((2 ^ (L - 24) - 1 : Nat) : Int) ((fdN 8388608 255 a + (L - 24) : Nat) : Int) ((fdN 8388608 255 a + (L - 24) - 1 : Nat) : Int) (((fdN 8388608 255 a + (L - 24) - 1) * 8388608 : Nat) : Int) (((fdN 8388608 255 a + (L - 24) - 1) * 8388608 + shUp 23 P L : Nat) : Int) _ _ (L - 24) (P / 2 ^ (L - 24) % 2 == 1) (tieN (P % 2 ^ (L - 24)) (L - 24) (P / 2 ^ (L - 24) % 2 == 1)) (m32 a ha) (by omega) (by rw [nbeq]; simpa using c3) (by simpa using c4) (by rw [IntKind.wrap_u32]; omega) (xr32 a _ (n32 ha) hN1) hSG (h32 _) (f32 _ (by omega)) (by omega) (by omega) (by omega) hF C96 e11 C200 (by omega) (by omega) (hL_of P L 24 hPu (by omega)) hod C199 hk1 hT m1 m2 m3 m4 ?_ w
    by_cases cO : 2139095040 ≤ (fdN 8388608 255 a + (L - 24) - 1) * 8388608 + shUp 23 P L
    · left
      rw [if_pos cO]
      refine ⟨by omega, ?_, rfl⟩
      exact (by rw [Nat.add_comm]; exact (hs31 2139095040 (by decide)).symm)
    · right
      rw [if_neg cO]
      clear m1 m2 m3 m4
      obtain ⟨out, hout⟩ : ∃ out, (fdN 8388608 255 a + (L - 24) - 1) * 8388608 + shUp 23 P L = out := ⟨_, rfl⟩
      rw [hout] at cO ⊢
      clear hout
      have ho : (out : Int) % 4294967296 = (out : Int) := by omega
      refine ⟨by omega, ?_, ?_⟩
      · rw [ho, Nat.add_comm]
        exact (hs31 out (by omega)).symm
      · by_cases cz : P % 2 ^ (L - 24) = 0
        · left
          rw [cz]
          exact ⟨rfl, by simp [cz]⟩
        · right
          exact ⟨by rw [nbeq]; simpa using cz, by simp [cz]⟩
  · have C35 : Hid (∀ w, Calls Tryz.prog 35 #[.agg #[.int .u64 32, .int .u64 8, .int .u64 23], .int .i64 n, .int .u64 a, .int .u8 0] w (Rt (.tuple #[.int .u64 ((mulIntN 23 127 2147483648 2139095040 8388608 4194304 255 n a).1 : Nat), .int .u8 (mulIntN 23 127 2147483648 2139095040 8388608 4194304 255 n a).2]) w)) := hidden CC
    clear CC
    have hw := w32_lt _ hlt
    have e1 := m32 a ha
    generalize mulIntN 23 127 2147483648 2139095040 8388608 4194304 255 n a = R at *
    obtain ⟨r1, r2⟩ := R
    dsimp only at C35 hw ⊢
    clear hlt
    generalize (r1 : Int) = R1 at *
    obtain ⟨a0, a1, a2, b0, b1, b2⟩ := hg
    clear b0 b1 b2
    by_cases c1 : 2139095040 ≤ a % 2147483648
    · have d1 : (2139095040 : Int) ≤ ((a % 2147483648 : Nat) : Int) := by omega
      clear cg c1
      generalize ((a % 2147483648 : Nat) : Int) = M at *
      go_enter Tryz.func106, Tryz.ntmps106
      go_wp2_with (go_at_call 35; (with_reducible refine (C35.out _).mono ?_); rintro _ _ ⟨rfl, x35, rfl⟩)
      go_ret2
      exact ⟨by simp [hw], Gr.of (by repeat (first | exact Gr.refl _ | refine Gr.alloc ?_ _ | refine Gr.ext ?_ _ | refine Gr.drew ?_))⟩
    · have d1 : ¬ (2139095040 : Int) ≤ ((a % 2147483648 : Nat) : Int) := by omega
      by_cases c3 : a % 2147483648 = 0
      · rw [c3] at e1
        clear cg c1 d1 c3
        go_enter Tryz.func106, Tryz.ntmps106
        go_wp2_with (go_at_call 35; (with_reducible refine (C35.out _).mono ?_); rintro _ _ ⟨rfl, x35, rfl⟩)
        go_ret2
        exact ⟨by simp [hw], Gr.of (by repeat (first | exact Gr.refl _ | refine Gr.alloc ?_ _ | refine Gr.ext ?_ _ | refine Gr.drew ?_))⟩
      · have c4 : n = 0 := by
          by_cases c4 : n = 0
          · exact c4
          · exact absurd ⟨c1, c3, c4⟩ cg
        subst c4
        have b3 : (((a % 2147483648 : Nat) : Int) == 0) = false := by rw [nbeq]; simp [c3]
        clear cg c1 c3
        generalize ((a % 2147483648 : Nat) : Int) = M at *
        go_enter Tryz.func106, Tryz.ntmps106
        go_wp2_with (go_at_call 35; (with_reducible refine (C35.out _).mono ?_); rintro _ _ ⟨rfl, x35, rfl⟩)
        go_ret2
        exact ⟨by simp [hw], Gr.of (by repeat (first | exact Gr.refl _ | refine Gr.alloc ?_ _ | refine Gr.ext ?_ _ | refine Gr.drew ?_))⟩
end Go.Proofs.Qxb6500680aGreatDoor
