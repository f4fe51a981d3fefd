import Derived.Test.Qxb6500680aGreatDoorBase
import Derived.Deep.CutBlock
namespace Go.Proofs.Qxb6500680aGreatDoor
open Go.RowKit Go.BigFrame
set_option linter.unusedSimpArgs false
attribute [local go_sem] ext_cell_if ext_frozen_if alloc_cell_if alloc_frozen_if ext_size ext_ext
theorem aux_bd : ∀ (f x : Nat), x < 2 ^ f → x ≠ 0 → 0 < Lib.bitLenAux f x ∧ 2 ^ (Lib.bitLenAux f x - 1) ≤ x ∧ x < 2 ^ Lib.bitLenAux f x
  | 0, x, h, h0 => by simp at h; omega
  | f + 1, x, h, h0 => by
    unfold Lib.bitLenAux
    rw [if_neg h0]
    by_cases h1 : x / 2 = 0
    · have : x = 1 := by omega
      subst this
      have e : Lib.bitLenAux f (1 / 2) = 0 := by cases f <;> simp [Lib.bitLenAux]
      rw [e]
      simp
    · obtain ⟨a, b, c⟩ := aux_bd f (x / 2) (by rw [Nat.pow_succ] at h; omega) h1
      obtain ⟨k, hk⟩ : ∃ k, Lib.bitLenAux f (x / 2) = k + 1 := ⟨Lib.bitLenAux f (x / 2) - 1, by omega⟩
      rw [hk] at b c ⊢
      simp at b
      refine ⟨by omega, ?_, ?_⟩
      · rw [show 1 + (k + 1) - 1 = k + 1 by omega, Nat.pow_succ]; omega
      · rw [show 1 + (k + 1) = (k + 1) + 1 by omega, Nat.pow_succ]; omega
/-- A whole number shifted up until its topmost bit is set. -/
theorem align (y : Nat) (h : y ≤ 18446744073709551615) (h0 : y ≠ 0) : 0 < Lib.bitLen y ∧ Lib.bitLen y ≤ 64 ∧ 9223372036854775808 ≤ y * 2 ^ (64 - Lib.bitLen y) ∧ y * 2 ^ (64 - Lib.bitLen y) ≤ 18446744073709551615 := by
  obtain ⟨a, b, c⟩ := aux_bd 64 y (by omega) h0
  have hl := len_le y
  obtain ⟨k, hk⟩ : ∃ k, Lib.bitLen y = k + 1 := ⟨Lib.bitLen y - 1, by have : Lib.bitLen y = Lib.bitLenAux 64 y := rfl; omega⟩
  have e : Lib.bitLenAux 64 y = k + 1 := hk
  rw [e] at b c
  rw [hk]
  simp at b
  refine ⟨by omega, by omega, ?_, ?_⟩
  · have h1 : 2 ^ k * 2 ^ (64 - (k + 1)) ≤ y * 2 ^ (64 - (k + 1)) := Nat.mul_le_mul_right _ b
    rw [← Nat.pow_add, show k + (64 - (k + 1)) = 63 by omega] at h1
    exact h1
  · have h1 : (y + 1) * 2 ^ (64 - (k + 1)) ≤ 2 ^ (k + 1) * 2 ^ (64 - (k + 1)) := Nat.mul_le_mul_right _ c
    rw [← Nat.pow_add, show k + 1 + (64 - (k + 1)) = 64 by omega, Nat.add_mul] at h1
    have h2 : 0 < 2 ^ (64 - (k + 1)) := Nat.pow_pos (by decide)
    have h3 : (2 : Nat) ^ 64 = 18446744073709551616 := by decide
    omega
theorem lz_any (y : Nat) (h : y ≤ 18446744073709551615) (w : World) : Calls Tryz.prog 193 #[.int .u64 y] w fun e w' => e = .returned (.int .i64 (64 - Lib.bitLen y)) ∧ w' = w := by
  have LE := hidden (Tryz.bits_Len64 y w (by omega) (by omega))
  have hl := len_le y
  simp only [Int.toNat_natCast] at LE
  generalize Lib.bitLen y = L at *
  go_enter Tryz.func193, Tryz.ntmps193
  go_wp2_with (go_at_call 200; (with_reducible refine LE.out.mono ?_); rintro _ w ⟨rfl, rfl⟩)
  go_ret
  exact ⟨rfl, rfl⟩
theorem wr_nat (z : Int) : ∃ U : Nat, IntKind.u64.wrap z = U ∧ U ≤ 18446744073709551615 := u64_nat (wrap_within .u64 z)
theorem wr_bd (z : Int) : 0 ≤ IntKind.u64.wrap z ∧ IntKind.u64.wrap z ≤ 18446744073709551615 := by
  obtain ⟨U, h1, h2⟩ := wr_nat z
  omega
theorem bits_nat (op : BinOp) (x y : Int) : ∃ U : Nat, bits op .u64 x y = U ∧ U ≤ 18446744073709551615 := by
  unfold bits
  split <;> exact wr_nat _
/-- What Div64 answers. -/
def DivOK (w : World) (e : Ending) (w' : World) : Prop := ∃ q r : Nat, e = .returned (.tuple #[.int .u64 q, .int .u64 r]) ∧ q ≤ 18446744073709551615 ∧ r ≤ 18446744073709551615 ∧ ∃ x, w' = ext w x
set_option maxRecDepth 100000 in
set_option maxHeartbeats 1000000 in
theorem div64_any (hi lo y : Nat) (hh : hi < y) (hl : lo ≤ 18446744073709551615) (hy : y ≤ 18446744073709551615) (w : World) : Calls Tryz.prog 148 #[.int .u64 hi, .int .u64 lo, .int .u64 y] w (DivOK w) := by
  have LZ := hidden (lz_any y hy)
  obtain ⟨a1, a2, a3, a4⟩ := align y hy (by omega)
  go_enter Tryz.func148, Tryz.ntmps148
  by_cases h0 : hi = 0
  · subst h0
    go_upto_region 6 with (fail)
    go_region
    go_wp2_with (fail)
    obtain ⟨q, hq, hq1⟩ := wr_nat ((lo : Int) / (y : Int))
    obtain ⟨r, hr, hr1⟩ : ∃ r : Nat, (lo : Int) % (y : Int) = r ∧ r ≤ 18446744073709551615 := ⟨lo % y, by simp, by have := Nat.mod_le lo y; omega⟩
    simp only [hq, hr]
    go_ret2
    exact ⟨q, r, rfl, hq1, hr1, (Gr.refl w).drew.of⟩
  · generalize hL : Lib.bitLen y = L at *
    go_upto_region 9 with (go_at_call 193; (with_reducible refine (LZ.out _).mono ?_); rintro _ w ⟨rfl, rfl⟩)
    obtain ⟨Y, hY, hY1, hY2⟩ : ∃ Y : Nat, IntKind.u64.wrap ((y : Int) * 2 ^ (64 - L)) = Y ∧ 9223372036854775808 ≤ Y ∧ Y ≤ 18446744073709551615 := by
      refine ⟨y * 2 ^ (64 - L), ?_, a3, a4⟩
      rw [IntKind.wrap_u64, show (y : Int) * 2 ^ (64 - L) = ((y * 2 ^ (64 - L) : Nat) : Int) by simp]
      omega
    obtain ⟨S, hS, hS1⟩ : ∃ S : Nat, (64 : Int) - (L : Int) = S ∧ S ≤ 63 := ⟨64 - L, by omega, by omega⟩
    simp only [hY, hS]
    clear hY hS a1 a2 a3 a4 hL LZ
    go_upto_region 15 with (fail)
    obtain ⟨N0, hN0, hN0b⟩ := bits_nat .and (Y : Int) 4294967295
    obtain ⟨W1, hW1, hW1b⟩ := wr_nat ((lo : Int) * 2 ^ S)
    obtain ⟨U, hU, hUb⟩ := bits_nat .or (IntKind.u64.wrap ((hi : Int) * 2 ^ S)) ((lo : Int) / 2 ^ (64 - S))
    simp only [hN0, hU, hW1]
    obtain ⟨N1, hN1, hN1b⟩ : ∃ N1 : Nat, (Y : Int) / 4294967296 = N1 ∧ 2147483648 ≤ N1 ∧ N1 ≤ 4294967295 := ⟨Y / 4294967296, by omega, by omega, by omega⟩
    obtain ⟨W2, hW2, hW2b⟩ : ∃ W2 : Nat, (W1 : Int) / 4294967296 = W2 ∧ W2 ≤ 4294967295 := ⟨W1 / 4294967296, by omega, by omega⟩
    obtain ⟨W3, hW3, hW3b⟩ := bits_nat .and (W1 : Int) 4294967295
    simp only [hN1, hW2, hW3]
    clear hN0 hU hW1 hN1 hW2 hW3
    go_upto_block 0 with (fail)
    have hQ0b := wr_bd ((U : Int) / (N1 : Int))
    generalize IntKind.u64.wrap ((U : Int) / (N1 : Int)) = Q0 at *
    have hR0b := wr_bd ((U : Int) - IntKind.u64.wrap (Q0 * (N1 : Int)))
    generalize IntKind.u64.wrap ((U : Int) - IntKind.u64.wrap (Q0 * (N1 : Int))) = R0 at *
    go_cut [15] (fun s15 wc => ∃ q : Int, s15 = .int .u64 q ∧ (0 ≤ q ∧ q ≤ 18446744073709551615) ∧ wc = w)
    case first =>
      go_wp2_with (fail)
      go_loopw [15, 16] (fun s15 s16 wi => ∃ q r : Int, s15 = .int .u64 q ∧ (0 ≤ q ∧ q ≤ 18446744073709551615) ∧ s16 = .int .u64 r ∧ (0 ≤ r ∧ r ≤ 18446744073709551615) ∧ wi = w) (fun s15 _ _ => (intOf s15).toNat)
      case atStart => exact ⟨Q0, R0, rfl, hQ0b, rfl, hR0b, rfl⟩
      case round =>
        obtain ⟨q, r, rfl, hq, rfl, hr, rfl⟩ := hrel
        by_cases c1 : 4294967296 ≤ q
        · by_cases c3 : 4294967296 ≤ IntKind.u64.wrap (r + (N1 : Int))
          · go_wp2_with (fail)
            go_meet
            case rel => exact ⟨q - 1, rfl, by omega, rfl⟩
          · go_wp2_with (fail)
            exact ⟨⟨q - 1, _, rfl, by omega, rfl, wr_bd _, trivial⟩, by simp [intOf]; omega⟩
        by_cases c2 : IntKind.u64.wrap (IntKind.u64.wrap (4294967296 * r) + (W2 : Int)) < IntKind.u64.wrap (q * (N0 : Int))
        · have hq1 : 1 ≤ q := by
            apply Classical.byContradiction
            intro e
            have e' : q = 0 := by omega
            subst e'
            have := wr_bd (IntKind.u64.wrap (4294967296 * r) + (W2 : Int))
            have e2 : IntKind.u64.wrap (0 * (N0 : Int)) = 0 := by simp [IntKind.wrap_u64]
            omega
          by_cases c3 : 4294967296 ≤ IntKind.u64.wrap (r + (N1 : Int))
          · go_wp2_with (fail)
            go_meet
            case rel => exact ⟨q - 1, rfl, by omega, rfl⟩
          · go_wp2_with (fail)
            exact ⟨⟨q - 1, _, rfl, by omega, rfl, wr_bd _, trivial⟩, by simp [intOf]; omega⟩
        · go_wp2_with (fail)
          go_meet
          case rel => exact ⟨q, rfl, hq, rfl⟩
    case rest =>
      clear hQ0b hR0b
      obtain ⟨q1, rfl, hq1, rfl⟩ := hcut
      go_upto_block 2 with (fail)
      have hVb := wr_bd (IntKind.u64.wrap (IntKind.u64.wrap ((U : Int) * 4294967296) + (W2 : Int)) - IntKind.u64.wrap (q1 * (Y : Int)))
      generalize IntKind.u64.wrap (IntKind.u64.wrap (IntKind.u64.wrap ((U : Int) * 4294967296) + (W2 : Int)) - IntKind.u64.wrap (q1 * (Y : Int))) = V at *
      have hQ1b := wr_bd (V.tdiv (N1 : Int))
      generalize IntKind.u64.wrap (V.tdiv (N1 : Int)) = Q9 at *
      have hR1b := wr_bd (V - IntKind.u64.wrap (Q9 * (N1 : Int)))
      generalize IntKind.u64.wrap (V - IntKind.u64.wrap (Q9 * (N1 : Int))) = R9 at *
      go_cut [18] (fun s15 w9 => ∃ q : Int, s15 = .int .u64 q ∧ (0 ≤ q ∧ q ≤ 18446744073709551615) ∧ w9 = wc)
      case first =>
        go_wp2_with (fail)
        go_loopw [18, 16] (fun s15 s16 wi => ∃ q r : Int, s15 = .int .u64 q ∧ (0 ≤ q ∧ q ≤ 18446744073709551615) ∧ s16 = .int .u64 r ∧ (0 ≤ r ∧ r ≤ 18446744073709551615) ∧ wi = wc) (fun s15 _ _ => (intOf s15).toNat)
        case atStart => exact ⟨Q9, R9, rfl, hQ1b, rfl, hR1b, rfl⟩
        case round =>
          obtain ⟨q, r, rfl, hq, rfl, hr, rfl⟩ := hrel
          by_cases c1 : 4294967296 ≤ q
          · by_cases c3 : 4294967296 ≤ IntKind.u64.wrap (r + (N1 : Int))
            · go_wp2_with (fail)
              go_meet
              case rel => exact ⟨q - 1, rfl, by omega, rfl⟩
            · go_wp2_with (fail)
              exact ⟨⟨q - 1, _, rfl, by omega, rfl, wr_bd _, trivial⟩, by simp [intOf]; omega⟩
          by_cases c2 : IntKind.u64.wrap (IntKind.u64.wrap (4294967296 * r) + (W3 : Int)) < IntKind.u64.wrap (q * (N0 : Int))
          · have hq1 : 1 ≤ q := by
              apply Classical.byContradiction
              intro e
              have e' : q = 0 := by omega
              subst e'
              have := wr_bd (IntKind.u64.wrap (4294967296 * r) + (W3 : Int))
              have e2 : IntKind.u64.wrap (0 * (N0 : Int)) = 0 := by simp [IntKind.wrap_u64]
              omega
            by_cases c3 : 4294967296 ≤ IntKind.u64.wrap (r + (N1 : Int))
            · go_wp2_with (fail)
              go_meet
              case rel => exact ⟨q - 1, rfl, by omega, rfl⟩
            · go_wp2_with (fail)
              exact ⟨⟨q - 1, _, rfl, by omega, rfl, wr_bd _, trivial⟩, by simp [intOf]; omega⟩
          · go_wp2_with (fail)
            go_meet
            case rel => exact ⟨q, rfl, hq, rfl⟩
      case rest =>
        obtain ⟨q2, rfl, hq2, rfl⟩ := hcut
        go_wp2_with (fail)
        obtain ⟨A, hA, hAb⟩ := wr_nat (IntKind.u64.wrap (q1 * 4294967296) + q2)
        obtain ⟨Z, hZ, hZb⟩ := wr_nat (IntKind.u64.wrap (IntKind.u64.wrap (V * 4294967296) + (W3 : Int)) - IntKind.u64.wrap (q2 * (Y : Int)))
        have hB : (Z : Int) / 2 ^ S = ((Z / 2 ^ S : Nat) : Int) := by simp
        have hBb : Z / 2 ^ S ≤ 18446744073709551615 := Nat.le_trans (Nat.div_le_self _ _) hZb
        simp only [hA, hZ, hB]
        go_ret2
        exact ⟨A, Z / 2 ^ S, by simp, hAb, hBb, (Gr.refl _).of⟩
end Go.Proofs.Qxb6500680aGreatDoor
