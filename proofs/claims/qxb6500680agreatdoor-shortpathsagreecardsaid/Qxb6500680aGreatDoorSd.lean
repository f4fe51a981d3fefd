import Derived.Test.Qxb6500680aGreatDoorSv
namespace Go.Proofs.Qxb6500680aGreatDoor
open Go.RowKit Go.BigFrame
set_option linter.unusedSimpArgs false
attribute [local go_sem] ext_cell_if ext_frozen_if alloc_cell_if alloc_frozen_if ext_size ext_ext
set_option maxRecDepth 100000
/-! Division of two words by one: the plain law (Knuth's algorithm D, two digits of 32 bits). -/
/-- Where the search for a digit stands: U = q N1 + r, the digit is not above q. -/
structure DvI (Y U w N1 N0 q r : Nat) : Prop where
  sum : q * N1 + r = U
  ge : (U * 4294967296 + w) / Y ≤ q
theorem dv_lt (Y U w : Nat) (hU : U < Y) (hw : w < 4294967296) : (U * 4294967296 + w) / Y < 4294967296 := by
  have hY : 0 < Y := by omega
  rw [Nat.div_lt_iff_lt_mul hY]
  have h : (U + 1) * 4294967296 ≤ Y * 4294967296 := Nat.mul_le_mul_right _ hU
  rw [Nat.mul_comm 4294967296 Y]
  omega
/-- q Y against U 2^32 + w. -/
theorem dv_key {Y U N1 N0 q r : Nat} (hY : Y = N1 * 4294967296 + N0) (hs : q * N1 + r = U) : q * Y + r * 4294967296 = U * 4294967296 + q * N0 := by
  subst hY
  subst hs
  rw [Nat.mul_add, Nat.add_mul, Nat.mul_assoc]
  omega
theorem DvI.small {Y U w N1 N0 q r : Nat} (hY : Y = N1 * 4294967296 + N0) (hN0 : N0 < 4294967296) (hU : U < Y) (h : DvI Y U w N1 N0 q r) (hr : 4294967296 ≤ r) : q < 4294967296 := by
  apply Classical.byContradiction
  intro hq
  have h1 : 4294967296 * N1 ≤ q * N1 := Nat.mul_le_mul_right _ (by omega)
  have := h.sum
  omega
theorem dlin1 (A B U R w : Nat) (hk : A + R = U + B) (hc : R + w < B) : U + w < A := by omega
theorem dlin2 (P Q X Z w : Nat) (h : P + Q = X + Z) : X + (Z + w) = P + (Q + w) := by omega
theorem dsq (u w : Nat) : (u * 4294967296 + w) * 4294967296 = u * 18446744073709551616 + w * 4294967296 := by rw [Nat.add_mul, Nat.mul_assoc]
theorem DvI.step {Y U w N1 N0 q r : Nat} (hY : Y = N1 * 4294967296 + N0) (hU : U < Y) (hw : w < 4294967296) (h : DvI Y U w N1 N0 q r) (hc : 4294967296 ≤ q ∨ r * 4294967296 + w < q * N0) : 1 ≤ q ∧ DvI Y U w N1 N0 (q - 1) (r + N1) := by
  have hYp : 0 < Y := by omega
  have hlt : (U * 4294967296 + w) / Y < q := by
    rcases hc with hc | hc
    · exact Nat.lt_of_lt_of_le (dv_lt Y U w hU hw) hc
    · rw [Nat.div_lt_iff_lt_mul hYp]
      exact dlin1 _ _ _ _ _ (dv_key hY h.sum) hc
  have h1 : 1 ≤ q := Nat.lt_of_le_of_lt (Nat.zero_le _) hlt
  refine ⟨h1, ?_, Nat.le_sub_one_of_lt hlt⟩
  obtain ⟨q', rfl⟩ : ∃ q', q = q' + 1 := ⟨q - 1, by omega⟩
  have := h.sum
  rw [Nat.add_mul] at this
  simp only [Nat.add_sub_cancel]
  omega
theorem DvI.done {Y U w N1 N0 q r : Nat} (hY : Y = N1 * 4294967296 + N0) (hU : U < Y) (h : DvI Y U w N1 N0 q r) (hc : q * N0 ≤ r * 4294967296 + w) : q = (U * 4294967296 + w) / Y := by
  have hYp : 0 < Y := by omega
  refine Nat.le_antisymm ?_ h.ge
  rw [Nat.le_div_iff_mul_le hYp]
  have hk := dv_key hY h.sum
  omega
theorem DvI.start {Y U w N1 N0 : Nat} (hY : Y = N1 * 4294967296 + N0) (hN : 2147483648 ≤ N1) (hw : w < 4294967296) : DvI Y U w N1 N0 (U / N1) (U % N1) := by
  have hNp : 0 < N1 := by omega
  refine ⟨by rw [Nat.mul_comm]; exact Nat.div_add_mod U N1, ?_⟩
  have hYp : 0 < Y := by omega
  apply Nat.le_of_lt_succ
  rw [Nat.div_lt_iff_lt_mul hYp]
  have h2 : U < (U / N1 + 1) * N1 := by rw [Nat.add_mul, Nat.one_mul, Nat.mul_comm]; have := Nat.div_add_mod U N1; have := Nat.mod_lt U hNp; omega
  have h3 : (U + 1) * 4294967296 ≤ (U / N1 + 1) * N1 * 4294967296 := Nat.mul_le_mul_right _ h2
  have h4 : (U / N1 + 1) * Y = (U / N1 + 1) * N1 * 4294967296 + (U / N1 + 1) * N0 := by rw [hY, Nat.mul_add, Nat.mul_assoc]
  show U * 4294967296 + w < (U / N1 + 1) * Y
  rw [h4]
  omega
/-- Two digits. -/
theorem dv_two (Y U w1 w0 : Nat) (hY : 0 < Y) : (U * 18446744073709551616 + (w1 * 4294967296 + w0)) / Y = (U * 4294967296 + w1) / Y * 4294967296 + ((U * 4294967296 + w1) % Y * 4294967296 + w0) / Y ∧ (U * 18446744073709551616 + (w1 * 4294967296 + w0)) % Y = ((U * 4294967296 + w1) % Y * 4294967296 + w0) % Y := by
  have e : U * 18446744073709551616 + (w1 * 4294967296 + w0) = Y * ((U * 4294967296 + w1) / Y * 4294967296) + ((U * 4294967296 + w1) % Y * 4294967296 + w0) := by
    have h := Nat.div_add_mod (U * 4294967296 + w1) Y
    rw [← Nat.mul_assoc]
    have h2 : (Y * ((U * 4294967296 + w1) / Y) + (U * 4294967296 + w1) % Y) * 4294967296 = (U * 4294967296 + w1) * 4294967296 := by rw [h]
    rw [Nat.add_mul] at h2
    rw [dsq] at h2
    exact dlin2 _ _ _ _ _ h2
  rw [e]
  exact ⟨by rw [Nat.mul_add_div hY], by rw [Nat.mul_add_mod]⟩
/-- The dividend moved up. -/
theorem dv_shift (hi lo S : Nat) (hS : S ≤ 64) : (hi * 18446744073709551616 + lo) * 2 ^ S = (hi * 2 ^ S + lo / 2 ^ (64 - S)) * 18446744073709551616 + lo * 2 ^ S % 18446744073709551616 := by
  have e : (18446744073709551616 : Nat) = 2 ^ (64 - S) * 2 ^ S := by rw [← Nat.pow_add, Nat.sub_add_cancel hS]
  have h1 : lo * 2 ^ S / 18446744073709551616 = lo / 2 ^ (64 - S) := by
    rw [e, Nat.mul_div_mul_right _ _ (Nat.pos_of_ne_zero (by simp))]
  have h2 := Nat.div_add_mod (lo * 2 ^ S) 18446744073709551616
  rw [h1] at h2
  rw [Nat.add_mul, Nat.add_mul, Nat.mul_right_comm]
  omega
theorem dv_quo (N y S : Nat) : N * 2 ^ S / (y * 2 ^ S) = N / y ∧ N * 2 ^ S % (y * 2 ^ S) / 2 ^ S = N % y := by
  have hp : 0 < 2 ^ S := Nat.pos_of_ne_zero (by simp)
  refine ⟨Nat.mul_div_mul_right _ _ hp, ?_⟩
  rw [Nat.mul_mod_mul_right, Nat.mul_div_cancel _ hp]
theorem dnot {q : Nat} (h : ¬ (4294967296 : Int) ≤ (q : Int)) : q < 4294967296 := by omega
theorem dvn1 (q r N1 : Nat) (hr : r < 4294967296) (hN : N1 < 4294967296) (hq : q < 18446744073709551616) : (1 ≤ q → IntKind.u64.wrap ((q : Int) - 1) = ((q - 1 : Nat) : Int)) ∧ IntKind.u64.wrap ((r : Int) + (N1 : Int)) = ((r + N1 : Nat) : Int) := by
  simp only [IntKind.wrap_u64]
  omega
theorem dvn2 (q r N0 w : Nat) (hq : q < 4294967296) (hr : r < 4294967296) (hN : N0 < 4294967296) (hw : w < 4294967296) : IntKind.u64.wrap (4294967296 * (r : Int)) = ((4294967296 * r : Nat) : Int) ∧ IntKind.u64.wrap (((4294967296 * r : Nat) : Int) + (w : Int)) = ((4294967296 * r + w : Nat) : Int) ∧ IntKind.u64.wrap ((q : Int) * (N0 : Int)) = ((q * N0 : Nat) : Int) := by
  refine ⟨?_, ?_, ?_⟩
  · rw [IntKind.wrap_u64]; omega
  · rw [IntKind.wrap_u64]; omega
  · rw [show ((q : Int) * (N0 : Int)) = ((q * N0 : Nat) : Int) by simp]
    have h := Nat.mul_lt_mul_of_lt_of_lt hq hN
    generalize q * N0 = z at h
    rw [IntKind.wrap_u64]
    omega
theorem dvq (q N0 r w : Nat) (hq : q < 4294967296) (hN : N0 < 4294967296) (hr : 4294967296 ≤ r) : q * N0 ≤ r * 4294967296 + w := by
  have h := Nat.mul_lt_mul_of_lt_of_lt hq hN
  generalize q * N0 = z at h
  omega
/-- What is left behind a digit. -/
theorem dv_rest (a b c t : Int) (h : a + b - c = t) (h0 : 0 ≤ t) (h1 : t < 18446744073709551616) : IntKind.u64.wrap (IntKind.u64.wrap (IntKind.u64.wrap a + b) - IntKind.u64.wrap c) = t := by
  simp only [IntKind.wrap_u64]
  omega
theorem dv_rest2 (Y U w : Nat) (hY : Y < 18446744073709551616) (hU : U < Y) : IntKind.u64.wrap (IntKind.u64.wrap (IntKind.u64.wrap ((U : Int) * 4294967296) + (w : Int)) - IntKind.u64.wrap ((((U * 4294967296 + w) / Y : Nat) : Int) * (Y : Int))) = (((U * 4294967296 + w) % Y : Nat) : Int) := by
  have h := Nat.div_add_mod (U * 4294967296 + w) Y
  have h2 := Nat.mod_lt (U * 4294967296 + w) (show 0 < Y by omega)
  refine dv_rest _ _ _ _ ?_ (by omega) (by omega)
  rw [← Int.natCast_mul, Nat.mul_comm _ Y]
  generalize Y * ((U * 4294967296 + w) / Y) = z at h
  generalize (U * 4294967296 + w) % Y = v at h
  omega
theorem dv_q0 (U N1 : Nat) (hU : U < 18446744073709551616) (hN : 0 < N1) : IntKind.u64.wrap ((U : Int) / (N1 : Int)) = ((U / N1 : Nat) : Int) ∧ IntKind.u64.wrap ((U : Int) - IntKind.u64.wrap (((U / N1 : Nat) : Int) * (N1 : Int))) = ((U % N1 : Nat) : Int) ∧ IntKind.u64.wrap ((U : Int).tdiv (N1 : Int)) = ((U / N1 : Nat) : Int) := by
  have h := Nat.div_add_mod U N1
  have h2 := Nat.mod_lt U hN
  have h3 : U / N1 ≤ U := Nat.div_le_self _ _
  have e : IntKind.u64.wrap ((U / N1 : Nat) : Int) = ((U / N1 : Nat) : Int) := by
    generalize U / N1 = z at h3
    rw [IntKind.wrap_u64]; omega
  refine ⟨by rw [show ((U : Int) / (N1 : Int)) = ((U / N1 : Nat) : Int) by simp]; exact e, ?_, by rw [Int.tdiv_eq_ediv_of_nonneg (by omega), show ((U : Int) / (N1 : Int)) = ((U / N1 : Nat) : Int) by simp]; exact e⟩
  rw [show (((U / N1 : Nat) : Int) * (N1 : Int)) = ((N1 * (U / N1) : Nat) : Int) by rw [Nat.mul_comm]; simp]
  generalize N1 * (U / N1) = z at h
  generalize U % N1 = v at h
  simp only [IntKind.wrap_u64]
  omega
theorem un_lt (hi lo y S : Nat) (hh : hi < y) (hl : lo < 18446744073709551616) (hS : S ≤ 63) : hi * 2 ^ S + lo / 2 ^ (64 - S) < y * 2 ^ S := by
  have hp : 0 < 2 ^ (64 - S) := Nat.pos_of_ne_zero (by simp)
  have h1 : lo / 2 ^ (64 - S) < 2 ^ S := by
    rw [Nat.div_lt_iff_lt_mul hp, ← Nat.pow_add, show S + (64 - S) = 64 by omega]
    exact hl
  have h2 : (hi + 1) * 2 ^ S ≤ y * 2 ^ S := Nat.mul_le_mul_right _ hh
  rw [Nat.add_mul, Nat.one_mul] at h2
  omega
theorem un_eq (hi lo S : Nat) (hb : hi * 2 ^ S < 18446744073709551616) (hl : lo < 18446744073709551616) (hS : S ≤ 63) : bits .or .u64 (IntKind.u64.wrap ((hi : Int) * 2 ^ S)) ((lo : Int) / 2 ^ (64 - S)) = ((hi * 2 ^ S + lo / 2 ^ (64 - S) : Nat) : Int) := by
  have hp : 0 < 2 ^ (64 - S) := Nat.pos_of_ne_zero (by simp)
  have h1 : lo / 2 ^ (64 - S) < 2 ^ S := by
    rw [Nat.div_lt_iff_lt_mul hp, ← Nat.pow_add, show S + (64 - S) = 64 by omega]
    exact hl
  rw [shl_eq, Nat.mod_eq_of_lt hb, pw_div, bor _ _ hb (div_u hl _), Nat.mul_comm, Nat.two_pow_add_eq_or_of_lt h1]
set_option maxHeartbeats 4000000 in
theorem div64_eq (hi lo y : Nat) (hh : hi < y) (hl : U64 lo) (hy : U64 y) (w : World) : Calls Tryz.prog 148 #[.int .u64 hi, .int .u64 lo, .int .u64 y] w (Rt (.tuple #[.int .u64 ((hi * 18446744073709551616 + lo) / y : Nat), .int .u64 ((hi * 18446744073709551616 + lo) % y : Nat)]) w) := by
  have hy' : y ≤ 18446744073709551615 := by unfold U64 at hy; omega
  have LZ := hidden (lz_any y hy')
  obtain ⟨a1, a2, a3, a4⟩ := align y hy' (by omega)
  by_cases h0 : hi = 0
  · subst h0
    rw [Nat.zero_mul, Nat.zero_add]
    have q1 : IntKind.u64.wrap ((lo : Int) / (y : Int)) = ((lo / y : Nat) : Int) := (dv_q0 lo y hl (by omega)).1
    have q2 : (lo : Int) % (y : Int) = ((lo % y : Nat) : Int) := by simp
    have Q1 := hidden q1
    have Q2 := hidden q2
    clear a1 a2 a3 a4 hl hy hy' q1 q2 LZ
    go_enter Tryz.func148, Tryz.ntmps148
    go_upto_region 6 with (fail)
    go_region
    go_wp2_with (fail)
    simp only [Q1.out, Q2.out]
    go_ret2
    exact ⟨rfl, (Gr.refl w).drew.of⟩
  · generalize hL : Lib.bitLen y = L at *
    obtain ⟨S, hS, hS1⟩ : ∃ S : Nat, (64 : Int) - (L : Int) = S ∧ 64 - L = S := ⟨64 - L, by omega, rfl⟩
    have hS2 : S ≤ 63 := by omega
    rw [hS1] at a3 a4
    obtain ⟨hqq, hrr⟩ := dv_quo (hi * 18446744073709551616 + lo) y S
    rw [dv_shift hi lo S (by omega)] at hqq hrr
    have hun := un_lt hi lo y S hh hl hS2
    have hue := un_eq hi lo S (by have h1 : hi * 2 ^ S ≤ y * 2 ^ S := Nat.mul_le_mul_right _ (by omega); omega) hl hS2
    have hw1 := shl_eq lo S
    have hw1b := Nat.mod_lt (lo * 2 ^ S) (show 0 < 18446744073709551616 by decide)
    have hY : IntKind.u64.wrap ((y : Int) * 2 ^ S) = ((y * 2 ^ S : Nat) : Int) := by rw [shl_eq, Nat.mod_eq_of_lt (by omega)]
    rw [← hqq, ← hrr]
    obtain ⟨Y, eY⟩ : ∃ Y, y * 2 ^ S = Y := ⟨_, rfl⟩
    rw [eY] at a3 a4 hun hY ⊢
    obtain ⟨U, eU⟩ : ∃ U, hi * 2 ^ S + lo / 2 ^ (64 - S) = U := ⟨_, rfl⟩
    rw [eU] at hun hue ⊢
    obtain ⟨W1, eW1⟩ : ∃ W1, lo * 2 ^ S % 18446744073709551616 = W1 := ⟨_, rfl⟩
    rw [eW1] at hw1 hw1b ⊢
    have hW1s : W1 / 4294967296 * 4294967296 + W1 % 4294967296 = W1 := dm32 W1
    have hYs : Y = Y / 4294967296 * 4294967296 + Y % 4294967296 := (dm32 Y).symm
    have n1 : (Y : Int) / 4294967296 = ((Y / 4294967296 : Nat) : Int) := by simp
    have n0 : bits .and .u64 (Y : Int) 4294967295 = ((Y % 4294967296 : Nat) : Int) := and_low 32 (by decide) Y (by omega)
    have n2 : (W1 : Int) / 4294967296 = ((W1 / 4294967296 : Nat) : Int) := by simp
    have n3 : bits .and .u64 (W1 : Int) 4294967295 = ((W1 % 4294967296 : Nat) : Int) := and_low 32 (by decide) W1 hw1b
    have bN1 : 2147483648 ≤ Y / 4294967296 ∧ Y / 4294967296 < 4294967296 := by omega
    have bN0 : Y % 4294967296 < 4294967296 := Nat.mod_lt _ (by decide)
    have bW2 : W1 / 4294967296 < 4294967296 := by omega
    have bW3 : W1 % 4294967296 < 4294967296 := Nat.mod_lt _ (by decide)
    obtain ⟨N1, eN1⟩ : ∃ z, Y / 4294967296 = z := ⟨_, rfl⟩
    obtain ⟨N0, eN0⟩ : ∃ z, Y % 4294967296 = z := ⟨_, rfl⟩
    obtain ⟨W2, eW2⟩ : ∃ z, W1 / 4294967296 = z := ⟨_, rfl⟩
    obtain ⟨W3, eW3⟩ : ∃ z, W1 % 4294967296 = z := ⟨_, rfl⟩
    rw [eN1] at n1 bN1 hYs
    rw [eN0] at n0 bN0 hYs
    rw [eW2] at n2 bW2 hW1s
    rw [eW3] at n3 bW3 hW1s
    obtain ⟨d1, d2⟩ := dv_two Y U W2 W3 (by omega)
    rw [hW1s] at d1 d2
    rw [d1, d2]
    have hVlt := Nat.mod_lt (U * 4294967296 + W2) (show 0 < Y by omega)
    have hq1lt := dv_lt Y U W2 hun bW2
    have hv := dv_rest2 Y U W2 (by omega) hun
    have hv2 := dv_rest2 Y ((U * 4294967296 + W2) % Y) W3 (by omega) hVlt
    have hq2lt := dv_lt Y ((U * 4294967296 + W2) % Y) W3 hVlt bW3
    have hr2lt := Nat.mod_lt ((U * 4294967296 + W2) % Y * 4294967296 + W3) (show 0 < Y by omega)
    obtain ⟨i1, i2, i3⟩ := dv_q0 U N1 (by omega) (by omega)
    obtain ⟨i4, i5, i6⟩ := dv_q0 ((U * 4294967296 + W2) % Y) N1 (Nat.lt_of_lt_of_le hVlt (Nat.le_trans a4 (by decide))) (Nat.lt_of_lt_of_le (by decide) bN1.1)
    have st1 := DvI.start (U := U) (w := W2) hYs bN1.1 bW2
    have st2 := DvI.start (U := (U * 4294967296 + W2) % Y) (w := W3) hYs bN1.1 bW3
    have m1 := Nat.mod_lt U (show 0 < N1 by omega)
    have m2 := Nat.mod_lt ((U * 4294967296 + W2) % Y) (show 0 < N1 by omega)
    have g1 : U / N1 ≤ U := Nat.div_le_self _ _
    have g2 : (U * 4294967296 + W2) % Y / N1 ≤ (U * 4294967296 + W2) % Y := Nat.div_le_self _ _
    obtain ⟨q1, eq1⟩ : ∃ z, (U * 4294967296 + W2) / Y = z := ⟨_, rfl⟩
    obtain ⟨V, eV⟩ : ∃ z, (U * 4294967296 + W2) % Y = z := ⟨_, rfl⟩
    rw [eq1] at hq1lt hv ⊢
    rw [eV] at hv hv2 hVlt hq2lt hr2lt i4 i5 i6 st2 m2 g2 ⊢
    obtain ⟨q2, eq2⟩ : ∃ z, (V * 4294967296 + W3) / Y = z := ⟨_, rfl⟩
    obtain ⟨r2, er2⟩ : ∃ z, (V * 4294967296 + W3) % Y = z := ⟨_, rfl⟩
    rw [eq2] at hv2 hq2lt ⊢
    rw [er2] at hv2 hr2lt ⊢
    have fq : IntKind.u64.wrap (IntKind.u64.wrap ((q1 : Int) * 4294967296) + (q2 : Int)) = ((q1 * 4294967296 + q2 : Nat) : Int) := by simp only [IntKind.wrap_u64]; omega
    have fr : (r2 : Int) / 2 ^ S = ((r2 / 2 ^ S : Nat) : Int) := by simp
    have BD := hidden (And.intro bN1.2 (And.intro bN0 (And.intro hYs (And.intro hun hVlt))))
    have BWa := hidden bW2
    have BWb := hidden bW3
    have STa := hidden (And.intro st1 (And.intro (show U % N1 < 4294967296 by omega) (show U / N1 < 18446744073709551616 by omega)))
    have STb := hidden (And.intro st2 (And.intro (show V % N1 < 4294967296 by omega) (show V / N1 < 18446744073709551616 by omega)))
    have EQ1 := hidden eq1
    have EQ2 := hidden eq2
    have HUE := hidden hue
    have HW1 := hidden hw1
    have HY := hidden hY
    have NN := hidden (And.intro n1 (And.intro n0 (And.intro n2 n3)))
    have HI1 := hidden (And.intro i1 i2)
    have HI2 := hidden (And.intro i4 (And.intro i5 i6))
    have HV := hidden hv
    have HV2 := hidden hv2
    have FQ := hidden fq
    have FR := hidden fr
    rw [hS] at LZ
    have hN0 : N1 ≠ 0 := by omega
    clear fr fq hv hv2 i1 i2 i3 i4 i5 i6 hY hw1 hue n1 n0 n2 n3 eq1 eq2 er2 eV st1 st2 m1 m2 g1 g2 hVlt hq1lt hq2lt hr2lt d1 d2 hW1s hYs bN1 bN0 bW2 bW3 eN1 eN0 eW2 eW3 hun hw1b eW1 eU eY hqq hrr a1 a2 a3 a4 hS hS1 hL hl hy hy'
    go_enter Tryz.func148, Tryz.ntmps148
    go_upto_region 9 with (go_at_call 193; (with_reducible refine (LZ.out _).mono ?_); rintro _ w ⟨rfl, rfl⟩)
    simp only [HY.out]
    go_upto_region 15 with (fail)
    simp only [HUE.out, HW1.out]
    simp only [NN.out.1, NN.out.2.1, NN.out.2.2.1, NN.out.2.2.2]
    go_upto_block 0 with (fail)
    simp only [HI1.out.1]
    simp only [HI1.out.2]
    go_cut [15] (fun s15 wc => s15 = .int .u64 (((U * 4294967296 + W2) / Y : Nat) : Int) ∧ wc = w)
    case first =>
      go_wp2_with (fail)
      go_loopw [15, 16] (fun s15 s16 wi => ∃ q r : Nat, s15 = .int .u64 q ∧ s16 = .int .u64 r ∧ Hid (DvI Y U W2 N1 N0 q r ∧ r < 4294967296 ∧ q < 18446744073709551616) ∧ wi = w) (fun s15 _ _ => (intOf s15).toNat)
      case atStart => exact ⟨_, _, rfl, rfl, STa, rfl⟩
      case round =>
        obtain ⟨q, r, rfl, rfl, HI, rfl⟩ := hrel
        obtain ⟨e1, e2⟩ := dvn1 q r N1 HI.out.2.1 BD.out.1 HI.out.2.2
        obtain ⟨r', hr'⟩ : ∃ r', r + N1 = r' := ⟨_, rfl⟩
        obtain ⟨q', hq'⟩ : ∃ q', q - 1 = q' := ⟨_, rfl⟩
        rw [hr'] at e2
        have E1 := hidden e1
        clear e1
        by_cases c1 : (4294967296 : Int) ≤ (q : Int)
        · have hst := HI.out.1.step BD.out.2.2.1 BD.out.2.2.2.1 BWa.out (.inl (Int.ofNat_le.1 c1))
          have e1 := E1.out hst.1
          rw [hq'] at e1
          rw [hq', hr'] at hst
          have HST := hidden hst
          have HQ : Hid (q' < q ∧ q' < 18446744073709551616) := hidden (by have := HST.out.1; have := HI.out.2.2; omega)
          clear hst hq' hr'
          by_cases c3 : (4294967296 : Int) ≤ (r' : Int)
          · go_wp2_with (fail)
            go_meet
            case rel => exact ⟨congrArg (Value.int .u64) (congrArg Nat.cast (HST.out.2.done BD.out.2.2.1 BD.out.2.2.2.1 (dvq _ _ _ _ (HST.out.2.small BD.out.2.2.1 BD.out.2.1 BD.out.2.2.2.1 (Int.ofNat_le.1 c3)) BD.out.2.1 (Int.ofNat_le.1 c3)))), rfl⟩
          · go_wp2_with (fail)
            exact ⟨⟨q', r', rfl, rfl, hidden ⟨HST.out.2, dnot c3, HQ.out.2⟩, trivial⟩, by simp [intOf]; exact HQ.out.1⟩
        obtain ⟨e3, e4, e5⟩ := dvn2 q r N0 W2 (dnot c1) HI.out.2.1 BD.out.2.1 BWa.out
        obtain ⟨a1, h1⟩ : ∃ a, 4294967296 * r = a := ⟨_, rfl⟩
        rw [h1] at e3 e4
        obtain ⟨a2, h2⟩ : ∃ a, a1 + W2 = a := ⟨_, rfl⟩
        rw [h2] at e4
        obtain ⟨a3, h3⟩ : ∃ a, q * N0 = a := ⟨_, rfl⟩
        rw [h3] at e5
        have H123 : Hid (a2 = r * 4294967296 + W2 ∧ a3 = q * N0) := hidden (by rw [← h2, ← h1, ← h3, Nat.mul_comm]; exact ⟨rfl, rfl⟩)
        clear h1 h2 h3
        by_cases c2 : a2 < a3
        · have hst := HI.out.1.step BD.out.2.2.1 BD.out.2.2.2.1 BWa.out (.inr (by rw [← H123.out.1, ← H123.out.2]; exact c2))
          have e1 := E1.out hst.1
          rw [hq'] at e1
          rw [hq', hr'] at hst
          have HST := hidden hst
          have HQ : Hid (q' < q ∧ q' < 18446744073709551616) := hidden (by have := HST.out.1; have := HI.out.2.2; omega)
          clear hst hq' hr'
          by_cases c3 : (4294967296 : Int) ≤ (r' : Int)
          · go_wp2_with (fail)
            go_meet
            case rel => exact ⟨congrArg (Value.int .u64) (congrArg Nat.cast (HST.out.2.done BD.out.2.2.1 BD.out.2.2.2.1 (dvq _ _ _ _ (HST.out.2.small BD.out.2.2.1 BD.out.2.1 BD.out.2.2.2.1 (Int.ofNat_le.1 c3)) BD.out.2.1 (Int.ofNat_le.1 c3)))), rfl⟩
          · go_wp2_with (fail)
            exact ⟨⟨q', r', rfl, rfl, hidden ⟨HST.out.2, dnot c3, HQ.out.2⟩, trivial⟩, by simp [intOf]; exact HQ.out.1⟩
        · clear hq' hr'
          go_wp2_with (fail)
          go_meet
          case rel => exact ⟨congrArg (Value.int .u64) (congrArg Nat.cast (HI.out.1.done BD.out.2.2.1 BD.out.2.2.2.1 (by rw [← H123.out.1, ← H123.out.2]; omega))), rfl⟩
    case rest =>
      obtain ⟨rfl, rfl⟩ := hcut
      simp only [EQ1.out]
      go_upto_block 2 with (fail)
      simp only [HV.out]
      simp only [HI2.out.1, HI2.out.2.2]
      simp only [HI2.out.2.1]
      go_cut [18] (fun s15 w9 => s15 = .int .u64 (((V * 4294967296 + W3) / Y : Nat) : Int) ∧ w9 = wc)
      case first =>
        go_wp2_with (fail)
        go_loopw [18, 16] (fun s15 s16 wi => ∃ q r : Nat, s15 = .int .u64 q ∧ s16 = .int .u64 r ∧ Hid (DvI Y V W3 N1 N0 q r ∧ r < 4294967296 ∧ q < 18446744073709551616) ∧ wi = wc) (fun s15 _ _ => (intOf s15).toNat)
        case atStart => exact ⟨_, _, rfl, rfl, STb, rfl⟩
        case round =>
          obtain ⟨q, r, rfl, rfl, HI, rfl⟩ := hrel
          obtain ⟨e1, e2⟩ := dvn1 q r N1 HI.out.2.1 BD.out.1 HI.out.2.2
          obtain ⟨r', hr'⟩ : ∃ r', r + N1 = r' := ⟨_, rfl⟩
          obtain ⟨q', hq'⟩ : ∃ q', q - 1 = q' := ⟨_, rfl⟩
          rw [hr'] at e2
          have E1 := hidden e1
          clear e1
          by_cases c1 : (4294967296 : Int) ≤ (q : Int)
          · have hst := HI.out.1.step BD.out.2.2.1 BD.out.2.2.2.2 BWb.out (.inl (Int.ofNat_le.1 c1))
            have e1 := E1.out hst.1
            rw [hq'] at e1
            rw [hq', hr'] at hst
            have HST := hidden hst
            have HQ : Hid (q' < q ∧ q' < 18446744073709551616) := hidden (by have := HST.out.1; have := HI.out.2.2; omega)
            clear hst hq' hr'
            by_cases c3 : (4294967296 : Int) ≤ (r' : Int)
            · go_wp2_with (fail)
              go_meet
              case rel => exact ⟨congrArg (Value.int .u64) (congrArg Nat.cast (HST.out.2.done BD.out.2.2.1 BD.out.2.2.2.2 (dvq _ _ _ _ (HST.out.2.small BD.out.2.2.1 BD.out.2.1 BD.out.2.2.2.2 (Int.ofNat_le.1 c3)) BD.out.2.1 (Int.ofNat_le.1 c3)))), rfl⟩
            · go_wp2_with (fail)
              exact ⟨⟨q', r', rfl, rfl, hidden ⟨HST.out.2, dnot c3, HQ.out.2⟩, trivial⟩, by simp [intOf]; exact HQ.out.1⟩
          obtain ⟨e3, e4, e5⟩ := dvn2 q r N0 W3 (dnot c1) HI.out.2.1 BD.out.2.1 BWb.out
          obtain ⟨a1, h1⟩ : ∃ a, 4294967296 * r = a := ⟨_, rfl⟩
          rw [h1] at e3 e4
          obtain ⟨a2, h2⟩ : ∃ a, a1 + W3 = a := ⟨_, rfl⟩
          rw [h2] at e4
          obtain ⟨a3, h3⟩ : ∃ a, q * N0 = a := ⟨_, rfl⟩
          rw [h3] at e5
          have H123 : Hid (a2 = r * 4294967296 + W3 ∧ a3 = q * N0) := hidden (by rw [← h2, ← h1, ← h3, Nat.mul_comm]; exact ⟨rfl, rfl⟩)
          clear h1 h2 h3
          by_cases c2 : a2 < a3
          · have hst := HI.out.1.step BD.out.2.2.1 BD.out.2.2.2.2 BWb.out (.inr (by rw [← H123.out.1, ← H123.out.2]; exact c2))
            have e1 := E1.out hst.1
            rw [hq'] at e1
            rw [hq', hr'] at hst
            have HST := hidden hst
            have HQ : Hid (q' < q ∧ q' < 18446744073709551616) := hidden (by have := HST.out.1; have := HI.out.2.2; omega)
            clear hst hq' hr'
            by_cases c3 : (4294967296 : Int) ≤ (r' : Int)
            · go_wp2_with (fail)
              go_meet
              case rel => exact ⟨congrArg (Value.int .u64) (congrArg Nat.cast (HST.out.2.done BD.out.2.2.1 BD.out.2.2.2.2 (dvq _ _ _ _ (HST.out.2.small BD.out.2.2.1 BD.out.2.1 BD.out.2.2.2.2 (Int.ofNat_le.1 c3)) BD.out.2.1 (Int.ofNat_le.1 c3)))), rfl⟩
            · go_wp2_with (fail)
              exact ⟨⟨q', r', rfl, rfl, hidden ⟨HST.out.2, dnot c3, HQ.out.2⟩, trivial⟩, by simp [intOf]; exact HQ.out.1⟩
          · clear hq' hr'
            go_wp2_with (fail)
            go_meet
            case rel => exact ⟨congrArg (Value.int .u64) (congrArg Nat.cast (HI.out.1.done BD.out.2.2.1 BD.out.2.2.2.2 (by rw [← H123.out.1, ← H123.out.2]; omega))), rfl⟩
      case rest =>
        obtain ⟨rfl, rfl⟩ := hcut
        simp only [EQ2.out]
        go_wp2_with (fail)
        simp only [FQ.out, HV2.out]
        simp only [FR.out]
        go_ret2
        exact ⟨rfl, (Gr.refl _).of⟩
end Go.Proofs.Qxb6500680aGreatDoor
