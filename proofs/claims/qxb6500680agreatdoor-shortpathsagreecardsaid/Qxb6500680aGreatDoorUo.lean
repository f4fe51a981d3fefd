import Derived.Test.Qxb6500680aGreatDoorUn
import Derived.Test.Qxb6500680aGreatDoorUk
namespace Go.Proofs.Qxb6500680aGreatDoor
open Go.RowKit Go.BigFrame
set_option linter.unusedSimpArgs false
set_option linter.unusedSectionVars false
attribute [local go_sem] ext_cell_if ext_frozen_if alloc_cell_if alloc_frozen_if ext_size ext_ext calmOp calmAt
theorem sgn_tb63 (p : Nat) : sgn 9223372036854775808 p = p.testBit 63 := by
  unfold sgn
  rw [Nat.testBit_eq_decide_div_mod_eq]
  rfl
theorem sgn_xor63 (a b : Nat) : sgn 9223372036854775808 (a ^^^ b) = (sgn 9223372036854775808 a != sgn 9223372036854775808 b) := by
  rw [sgn_tb63, sgn_tb63, sgn_tb63, Nat.testBit_xor]
theorem sgn_w64 (n : Int) (h0 : -9223372036854775808 ≤ n) (h1 : n ≤ 9223372036854775807) : sgn 9223372036854775808 (n % 18446744073709551616).toNat = decide (n < 0) := by
  unfold sgn
  by_cases c : n < 0
  · have h : (n % 18446744073709551616).toNat / 9223372036854775808 % 2 = 1 := by omega
    rw [h]
    simp [c]
  · have h : (n % 18446744073709551616).toNat / 9223372036854775808 % 2 = 0 := by omega
    rw [h]
    simp [c]
theorem s64w (a : Nat) (ha : U64 a) : bits .and .u64 (a : Int) 9223372036854775808 = ((sgw 9223372036854775808 (sgn 9223372036854775808 a) : Nat) : Int) := by
  refine (fk64.aS a ha).trans ?_
  unfold sgw sgn
  have h2 : a / 9223372036854775808 % 2 = 0 ∨ a / 9223372036854775808 % 2 = 1 := by omega
  rcases h2 with h2 | h2 <;> rw [h2] <;> rfl
theorem or_s64 (b : Bool) (v : Nat) (h : v < 9223372036854775808) : bits .or .u64 ((sgw 9223372036854775808 b : Nat) : Int) (v : Int) = ((sgw 9223372036854775808 b + v : Nat) : Int) := by
  cases b
  · rw [bor _ _ (by unfold U64; decide) (by unfold U64; omega)]
    simp [sgw]
  · rw [bor _ _ (by unfold U64; decide) (by unfold U64; omega), Nat.or_comm, ← bor _ _ (by unfold U64; omega) (by unfold U64; decide)]
    exact or_top 63 v h (by omega)
theorem or_0 (b : Nat) (hb : U64 b) : bits .or .u64 0 (b : Int) = (b : Int) := by
  have h := bor 0 b (by unfold U64; decide) hb
  rw [Nat.zero_or] at h
  exact h
theorem hL64 (hi lo P L dn : Nat) (hx : hi * 18446744073709551616 + lo = P) (hh : U64 hi) (hl : U64 lo) (hLe : len128 hi lo = L) (l2 : P < 2 ^ L) (hL : L ≤ 85) (hdn : L - 53 = dn) :
    ((hi : Int) = 0 ∧ (L : Int) = ((Lib.bitLen lo : Nat) : Int) ∧ ¬ (53 : Int) < (L : Int) ∧ dn = 0 ∧ ((P / 2 ^ dn : Nat) : Int) = (lo : Int) ∧ bits .or .u64 0 (lo : Int) = (lo : Int) ∧ bits .and .u64 (lo : Int) 0 = 0 ∧ ((P % 2 ^ dn : Nat) : Int) = 0) ∨ ((hi : Int) = 0 ∧ (L : Int) = ((Lib.bitLen lo : Nat) : Int) ∧ (53 : Int) < (L : Int) ∧ (L : Int) - 53 = (dn : Int) ∧ (64 : Int) - (dn : Int) = ((64 - dn : Nat) : Int) ∧ (lo : Int) / 2 ^ dn = ((lo / 2 ^ dn : Nat) : Int) ∧ bits .or .u64 0 ((lo / 2 ^ dn : Nat) : Int) = ((P / 2 ^ dn : Nat) : Int) ∧ IntKind.u64.wrap (2 ^ dn) = ((2 ^ dn : Nat) : Int) ∧ IntKind.u64.wrap (((2 ^ dn : Nat) : Int) - 1) = ((2 ^ dn - 1 : Nat) : Int) ∧ bits .and .u64 (lo : Int) ((2 ^ dn - 1 : Nat) : Int) = ((P % 2 ^ dn : Nat) : Int)) ∨ (((hi : Int) == 0) = false ∧ 64 + ((Lib.bitLen hi : Nat) : Int) = (L : Int) ∧ (53 : Int) < (L : Int) ∧ (L : Int) - 53 = (dn : Int) ∧ (64 : Int) - (dn : Int) = ((64 - dn : Nat) : Int) ∧ IntKind.u64.wrap ((hi : Int) * 2 ^ (64 - dn)) = ((hi * 2 ^ (64 - dn) % 18446744073709551616 : Nat) : Int) ∧ (lo : Int) / 2 ^ dn = ((lo / 2 ^ dn : Nat) : Int) ∧ bits .or .u64 ((hi * 2 ^ (64 - dn) % 18446744073709551616 : Nat) : Int) ((lo / 2 ^ dn : Nat) : Int) = ((P / 2 ^ dn : Nat) : Int) ∧ IntKind.u64.wrap (2 ^ dn) = ((2 ^ dn : Nat) : Int) ∧ IntKind.u64.wrap (((2 ^ dn : Nat) : Int) - 1) = ((2 ^ dn - 1 : Nat) : Int) ∧ bits .and .u64 (lo : Int) ((2 ^ dn - 1 : Nat) : Int) = ((P % 2 ^ dn : Nat) : Int)) := by
  have hLL := hL_of lo L 53 hl (by omega)
  rw [hdn] at hLL
  by_cases c : hi = 0
  · subst c
    rw [Nat.zero_mul, Nat.zero_add] at hx
    subst hx
    have eL : L = Lib.bitLen lo := by rw [← hLe]; unfold len128; rw [if_pos rfl]
    rcases hLL with ⟨p1, p2, p3, p4, p5⟩ | ⟨p1, p2, p3, p4, p5, p6⟩
    · exact .inl ⟨rfl, by rw [eL], p1, p2, p3, or_0 lo hl, p4, p5⟩
    · exact .inr (.inl ⟨rfl, by rw [eL], p1, p2, by omega, p3, or_0 _ (div_u hl _), p4, p5, p6⟩)
  · have eL : L = 64 + Lib.bitLen hi := by rw [← hLe]; unfold len128; rw [if_neg c]
    rcases hLL with ⟨p1, p2, p3, p4, p5⟩ | ⟨p1, p2, p3, p4, p5, p6⟩
    · omega
    · refine .inr (.inr ⟨by rw [nbeq]; simpa using c, by omega, p1, p2, by omega, shl_eq hi (64 - dn), p3, ?_, p4, p5, ?_⟩)
      · have hn : hi < 2 ^ dn := by
          have h1 : 2 ^ L ≤ 2 ^ (dn + 64) := Nat.pow_le_pow_right (by decide) (by omega)
          rw [Nat.pow_add 2 dn 64] at h1
          have h2 : hi * 18446744073709551616 < 2 ^ dn * 2 ^ 64 := Nat.lt_of_le_of_lt (hx ▸ Nat.le_add_right _ _) (Nat.lt_of_lt_of_le l2 h1)
          exact Nat.lt_of_mul_lt_mul_right h2
        have hc := cutX hi lo dn hl (by omega) (by omega) hn
        rw [hx] at hc
        have hc1 : (cut128 hi lo dn).1 = P / 2 ^ dn := by rw [hc]
        unfold cut128 shr128 at hc1
        rw [if_neg (by omega), if_neg (by omega), if_pos (by omega)] at hc1
        dsimp only at hc1
        rw [bor _ _ (Nat.mod_lt _ (by decide)) (div_u hl _), Nat.or_comm, hc1]
      · rw [p6]
        congr 1
        have e64 : (18446744073709551616 : Nat) = 2 ^ (64 - dn) * 2 ^ dn := by rw [← Nat.pow_add, show 64 - dn + dn = 64 by omega]
        rw [← hx, e64, ← Nat.mul_assoc, Nat.add_comm, Nat.add_mul_mod_self_right]
theorem num128 (FD dn ku : Nat) (h1 : 1 ≤ FD) (h2 : FD ≤ 2047) (h3 : dn ≤ 40) (h4 : ku ≤ 9007199254740992) : IntKind.u64.wrap ((FD : Int) + (dn : Int)) = ((FD + dn : Nat) : Int) ∧ IntKind.u64.wrap (((FD + dn : Nat) : Int) - 1) = ((FD + dn - 1 : Nat) : Int) ∧ IntKind.u64.wrap (((FD + dn - 1 : Nat) : Int) * 4503599627370496) = (((FD + dn - 1) * 4503599627370496 : Nat) : Int) ∧ IntKind.u64.wrap ((((FD + dn - 1) * 4503599627370496 : Nat) : Int) + (ku : Int)) = (((FD + dn - 1) * 4503599627370496 + ku : Nat) : Int) := by
  simp only [IntKind.wrap_u64]
  omega
theorem emle (o : Nat) : (9218868437227405312 : Int) ≤ (o : Int) ↔ 9218868437227405312 ≤ o := by omega
theorem us53 (a : Nat) : usig 4503599627370496 2047 a < 2 ^ 53 := by have := fk64.usig_lt a; omega
theorem mi64_P (n : Int) (a : Nat) (h2 : n.natAbs < 2 ^ 32) : usig 4503599627370496 2047 a * n.natAbs < 2 ^ 85 := by
  have h1 := us53 a
  rw [show (85 : Nat) = 53 + 32 from rfl, Nat.pow_add]
  exact Nat.mul_lt_mul_of_lt_of_lt h1 h2
theorem xorU {a b : Nat} (ha : U64 a) (hb : U64 b) : U64 (a ^^^ b) := Nat.xor_lt_two_pow (n := 64) ha hb
set_option maxRecDepth 100000 in
set_option maxHeartbeats 1000000 in
theorem s128 (a : Nat) (n : Int) (ha : (a : Int) < 18446744073709551616) (n0 : -9223372036854775808 ≤ n) (n1 : n ≤ 9223372036854775807) : ∃ (r : Nat) (fl : Int), (∀ w, Calls Tryz.prog 35 #[.agg #[.int .u64 64, .int .u64 11, .int .u64 52], .int .i64 n, .int .u64 a, .int .u8 0] w (Rt (.tuple #[.int .u64 r, .int .u8 fl]) w)) ∧ ∀ w, Glob w → Calls Tryz.prog 128 #[.int .i64 n, .int .u64 a] w (Rt (.tuple #[.int .u64 r, .int .u8 fl]) w) := by
  have hau := u_of64 a ha
  have CC := fun w => fk64.mulInt n a n0 n1 hau w
  refine ⟨_, _, CC, fun w hg => ?_⟩
  have C96 := hidden (fun w => abs64 n n0 n1 w)
  have e1 : bits .and .u64 (a : Int) 9223372036854775807 = ((a % 9223372036854775808 : Nat) : Int) := fk64.aM a hau
  by_cases cg : ¬ 9218868437227405312 ≤ a % 9223372036854775808 ∧ a % 9223372036854775808 ≠ 0 ∧ n ≠ 0 ∧ n.natAbs < 2 ^ 32
  · obtain ⟨c1, c3, c4, c5⟩ := cg
    clear CC hg
    have hna : U64 n.natAbs := by unfold U64; omega
    have hP := mi64_P n a c5
    have hP0 : usig 4503599627370496 2047 a * n.natAbs ≠ 0 := Nat.mul_ne_zero (fk64.usig0 a c3) (by omega)
    have hhu := mulU (fk64.usig_u a) hna
    have hlu := modU (usig 4503599627370496 2047 a * n.natAbs)
    have hdm := Nat.div_add_mod' (usig 4503599627370496 2047 a * n.natAbs) 18446744073709551616
    have C194 := hidden (fun w => mul64_hl (usig 4503599627370496 2047 a) n.natAbs (fk64.usig_u a) hna w)
    have hX := fk64.mulX n a c4 hna c1 c3
    obtain ⟨q1, q2, q3⟩ := lenX _ _ hhu hlu (by rw [hdm]; exact hP0)
    rw [hdm] at q2 q3
    have hku := shUp_le 52 _ _ q3
    have hkp := kp_lt 52 _ _ q3
    have hL85 : len128 (usig 4503599627370496 2047 a * n.natAbs / 18446744073709551616) (usig 4503599627370496 2047 a * n.natAbs % 18446744073709551616) ≤ 85 := by
      have := (Nat.pow_lt_pow_iff_right (a := 2) (by decide)).1 (Nat.lt_of_le_of_lt q2 hP)
      omega
    have hX := hX (by clear hX; omega)
    rw [hX]
    have hF := fk64.hF_of a
    obtain ⟨f1, f2⟩ := fk64.fd_bd a c1
    clear hX q2 hP hP0
    generalize usig 4503599627370496 2047 a * n.natAbs = P at *
    generalize P / 18446744073709551616 = hi at *
    generalize P % 18446744073709551616 = lo at *
    generalize hLL : len128 hi lo = L at *
    have C200 := hidden (fun w => len64_u lo hlu w)
    have D200 := hidden (fun w => len64_u hi hhu w)
    have b1 := len_le lo
    have b2 := len_le hi
    obtain ⟨D, hD⟩ : ∃ D, L - 53 = D := ⟨_, rfl⟩
    have hDb : D ≤ 40 := by clear hku hkp q3; omega
    have hLX := hL64 hi lo P L D hdm hhu hlu hLL q3 hL85 hD
    rw [show L - (52 + 1) = D from hD] at hkp
    have hN1 : U64 (n % 18446744073709551616).toNat := by unfold U64; omega
    have hsx : sgn 9223372036854775808 (a ^^^ (n % 18446744073709551616).toNat) = (sgn 9223372036854775808 a != decide (n < 0)) := by rw [sgn_xor63, sgn_w64 n n0 n1]
    have hSG := s64w (a ^^^ (n % 18446744073709551616).toNat) (xorU hau hN1)
    rw [hsx] at hSG
    generalize (sgn 9223372036854775808 a != decide (n < 0)) = ng at *
    have hkU : U64 (P / 2 ^ D) := Nat.lt_of_lt_of_le hkp (by decide)
    have hod := and1 (P / 2 ^ D) hkU
    have C199 := hidden (fun w => ties_eq (P % 2 ^ D) D (P / 2 ^ D % 2 == 1) (tie_pre P D (by omega)) w)
    have hk1 : IntKind.u64.wrap (((P / 2 ^ D : Nat) : Int) + 1) = ((P / 2 ^ D + 1 : Nat) : Int) := by
      rw [wr_add1, Nat.mod_eq_of_lt]
      exact Nat.lt_of_le_of_lt hkp (by decide)
    have hT : (if tieN (P % 2 ^ D) D (P / 2 ^ D % 2 == 1) then ((P / 2 ^ D + 1 : Nat) : Int) else ((P / 2 ^ D : Nat) : Int)) = ((shUp 52 P L : Nat) : Int) := by
      subst hD
      unfold shUp
      split <;> rfl
    obtain ⟨m1, m2, m3, m4⟩ := num128 (fdN 4503599627370496 2047 a) D (shUp 52 P L) f1 (by clear hku hkp; omega) hDb hku
    unfold shN
    rw [show L - (52 + 1) = D from hD]
    have hs31 : ∀ v : Nat, v < 9223372036854775808 → bits .or .u64 ((sgw 9223372036854775808 ng : Nat) : Int) (v : Int) = ((sgw 9223372036854775808 ng + v : Nat) : Int) := fun v hv => or_s64 ng v hv
    have e9 : bits .and .u64 ((a % 9223372036854775808 : Nat) : Int) 4503599627370495 = ((a % 9223372036854775808 % 4503599627370496 : Nat) : Int) := fk64.aF (a % 9223372036854775808) (Nat.lt_of_lt_of_le (Nat.mod_lt _ (by decide)) (by decide))
    have e6 := bxor a (n % 18446744073709551616).toNat hau hN1
    have g2 : ¬ (9218868437227405312 : Int) ≤ ((a % 9223372036854775808 : Nat) : Int) := by clear hku hkp q3 hLX m1 m2 m3 m4; omega
    have g4 : (((n.natAbs : Nat) : Int) == 0) = false := by rw [nbeq]; simpa using c4
    have g5 : ((n.natAbs : Nat) : Int) / 4294967296 = 0 := by clear hku hkp q3 hLX m1 m2 m3 m4; omega
    have g6 : IntKind.u64.wrap n = (((n % 18446744073709551616).toNat : Nat) : Int) := by clear hku hkp q3 hLX m1 m2 m3 m4; rw [IntKind.wrap_u64]; omega
    have g7 : (0 : Int) ≤ ((a % 9223372036854775808 / 4503599627370496 : Nat) : Int) ∧ ((a % 9223372036854775808 / 4503599627370496 : Nat) : Int) < 2048 := by clear hku hkp q3 hLX m1 m2 m3 m4; omega
    have g8 : (0 : Int) ≤ ((a % 9223372036854775808 % 4503599627370496 : Nat) : Int) ∧ ((a % 9223372036854775808 % 4503599627370496 : Nat) : Int) < 4503599627370496 := by clear hku hkp q3 hLX m1 m2 m3 m4; omega
    refine w128 a n ((a % 9223372036854775808 : Nat) : Int) (((n % 18446744073709551616).toNat : Nat) : Int) ((a ^^^ (n % 18446744073709551616).toNat : Nat) : Int) ((sgw 9223372036854775808 ng : Nat) : Int) ((a % 9223372036854775808 / 4503599627370496 : Nat) : Int) ((a % 9223372036854775808 % 4503599627370496 : Nat) : Int) ((fdN 4503599627370496 2047 a : Nat) : Int) ((usig 4503599627370496 2047 a : Nat) : Int) ((n.natAbs : Nat) : Int) (hi : Int) (lo : Int) ((Lib.bitLen lo : Nat) : Int) ((Lib.bitLen hi : Nat) : Int) (L : Int) ((P / 2 ^ D : Nat) : Int) ((P / 2 ^ D + 1 : Nat) : Int) ((P % 2 ^ D : Nat) : Int) ((shUp 52 P L : Nat) : Int) ((hi * 2 ^ (64 - D) % 18446744073709551616 : Nat) : Int) ((lo / 2 ^ D : Nat) : Int) ((2 ^ D : Nat) : Int) ((2 ^ D - 1 : Nat) : Int) ((fdN 4503599627370496 2047 a + D : Nat) : Int) ((fdN 4503599627370496 2047 a + D - 1 : Nat) : Int) (((fdN 4503599627370496 2047 a + D - 1) * 4503599627370496 : Nat) : Int) (((fdN 4503599627370496 2047 a + D - 1) * 4503599627370496 + shUp 52 P L : Nat) : Int) _ _ D (64 - D) (P / 2 ^ D % 2 == 1) (tieN (P % 2 ^ D) D (P / 2 ^ D % 2 == 1)) e1 g2 (by rw [nbeq]; simpa using c3) g4 g5 g6 e6 hSG (h64 _) e9 g7 g8 hF C96 C194 C200 D200 (by clear hku hkp q3 hLX m1 m2 m3 m4; omega) (by clear hku hkp q3 hLX m1 m2 m3 m4; omega) hDb hLX hod C199 hk1 hT m1 m2 m3 m4 ?_ w
    by_cases cO : 9218868437227405312 ≤ (fdN 4503599627370496 2047 a + D - 1) * 4503599627370496 + shUp 52 P L
    · left
      rw [if_pos cO]
      refine ⟨(emle _).2 cO, ?_, rfl⟩
      exact (by rw [Nat.add_comm]; exact (hs31 9218868437227405312 (by decide)).symm)
    · right
      rw [if_neg cO]
      clear m1 m2 m3 m4
      obtain ⟨out, hout⟩ : ∃ out, (fdN 4503599627370496 2047 a + D - 1) * 4503599627370496 + shUp 52 P L = out := ⟨_, rfl⟩
      rw [hout] at cO ⊢
      clear hout
      refine ⟨fun h => cO ((emle _).1 h), ?_, ?_⟩
      · rw [Nat.add_comm]
        exact (hs31 out (Nat.lt_of_lt_of_le (Nat.lt_of_not_le cO) (by decide))).symm
      · by_cases cz : P % 2 ^ D = 0
        · left
          rw [cz]
          exact ⟨rfl, by simp⟩
        · right
          exact ⟨by rw [nbeq]; simpa using cz, by simp [cz]⟩
  · have C35 : Hid (∀ w, Calls Tryz.prog 35 #[.agg #[.int .u64 64, .int .u64 11, .int .u64 52], .int .i64 n, .int .u64 a, .int .u8 0] w (Rt (.tuple #[.int .u64 ((mulIntN 52 1023 9223372036854775808 9218868437227405312 4503599627370496 2251799813685248 2047 n a).1 : Nat), .int .u8 (mulIntN 52 1023 9223372036854775808 9218868437227405312 4503599627370496 2251799813685248 2047 n a).2]) w)) := hidden CC
    clear CC
    generalize mulIntN 52 1023 9223372036854775808 9218868437227405312 4503599627370496 2251799813685248 2047 n a = R at *
    obtain ⟨r1, r2⟩ := R
    dsimp only at C35 ⊢
    have hlt2 := hg.lt
    obtain ⟨b0, b1, b2, a0, a1, a2⟩ := hg
    clear b0 b1 b2 hau
    have u1 : n.natAbs < 2 ^ 32 ∨ (((n.natAbs : Nat) : Int) / 4294967296 == 0) = false := by
      by_cases c : n.natAbs < 2 ^ 32
      · exact .inl c
      · refine .inr ?_
        rw [beq_eq_false_iff_ne]
        omega
    have u2 : n ≠ 0 → (((n.natAbs : Nat) : Int) == 0) = false := by
      intro h
      rw [nbeq]
      simpa using h
    have u3 : n = 0 → ((n.natAbs : Nat) : Int) = 0 := by intro h; rw [h]; rfl
    generalize hn2 : ((n.natAbs : Nat) : Int) = UN at *
    by_cases c1 : 9218868437227405312 ≤ a % 9223372036854775808
    · have d1 : (9218868437227405312 : Int) ≤ ((a % 9223372036854775808 : Nat) : Int) := (emle _).2 c1
      clear cg c1 u1 u2 u3 hn2 n0 n1 ha
      generalize ((a % 9223372036854775808 : Nat) : Int) = M at *
      generalize (a : Int) = A at *
      go_enter Tryz.func128, Tryz.ntmps128
      go_wp2_with (first | (go_at_call 96; (with_reducible refine (C96.out _).mono ?_); rintro _ _ ⟨rfl, x96, rfl⟩) | (go_at_call 35; (with_reducible refine (C35.out _).mono ?_); rintro _ _ ⟨rfl, x35, rfl⟩))
      go_ret2
      exact ⟨by simp, Gr.of (by repeat (first | exact Gr.refl _ | refine Gr.alloc ?_ _ | refine Gr.ext ?_ _ | refine Gr.drew ?_))⟩
    · have d1 : ¬ (9218868437227405312 : Int) ≤ ((a % 9223372036854775808 : Nat) : Int) := fun h => c1 ((emle _).1 h)
      by_cases c3 : a % 9223372036854775808 = 0
      · rw [c3] at e1
        clear cg c1 d1 c3 ha u1 u2 u3 hn2 n0 n1
        generalize (a : Int) = A at *
        go_enter Tryz.func128, Tryz.ntmps128
        go_wp2_with (first | (go_at_call 96; (with_reducible refine (C96.out _).mono ?_); rintro _ _ ⟨rfl, x96, rfl⟩) | (go_at_call 35; (with_reducible refine (C35.out _).mono ?_); rintro _ _ ⟨rfl, x35, rfl⟩))
        go_ret2
        exact ⟨by simp, Gr.of (by repeat (first | exact Gr.refl _ | refine Gr.alloc ?_ _ | refine Gr.ext ?_ _ | refine Gr.drew ?_))⟩
      · have b3 : (((a % 9223372036854775808 : Nat) : Int) == 0) = false := by rw [nbeq]; simp [c3]
        by_cases c4 : n = 0
        · have u4 := u3 c4
          subst u4
          clear cg c1 c3 u1 u2 u3 hn2 n0 n1 ha c4
          generalize ((a % 9223372036854775808 : Nat) : Int) = M at *
          generalize (a : Int) = A at *
          go_enter Tryz.func128, Tryz.ntmps128
          go_wp2_with (first | (go_at_call 96; (with_reducible refine (C96.out _).mono ?_); rintro _ _ ⟨rfl, x96, rfl⟩) | (go_at_call 35; (with_reducible refine (C35.out _).mono ?_); rintro _ _ ⟨rfl, x35, rfl⟩))
          go_ret2
          exact ⟨by simp, Gr.of (by repeat (first | exact Gr.refl _ | refine Gr.alloc ?_ _ | refine Gr.ext ?_ _ | refine Gr.drew ?_))⟩
        · have u4 := u2 c4
          have u5 : (UN / 4294967296 == 0) = false := u1.resolve_left (fun h => cg ⟨c1, c3, c4, h⟩)
          have u6 : (UN / 4294967296 != 0) = true := by rw [bne, u5]; rfl
          clear cg c1 c3 u1 u2 u3 hn2 n0 n1 ha c4
          generalize ((a % 9223372036854775808 : Nat) : Int) = M at *
          generalize (a : Int) = A at *
          go_enter Tryz.func128, Tryz.ntmps128
          go_wp2_with (first | (go_at_call 96; (with_reducible refine (C96.out _).mono ?_); rintro _ _ ⟨rfl, x96, rfl⟩) | (go_at_call 35; (with_reducible refine (C35.out _).mono ?_); rintro _ _ ⟨rfl, x35, rfl⟩))
          go_ret2
          exact ⟨by simp, Gr.of (by repeat (first | exact Gr.refl _ | refine Gr.alloc ?_ _ | refine Gr.ext ?_ _ | refine Gr.drew ?_))⟩
end Go.Proofs.Qxb6500680aGreatDoor
