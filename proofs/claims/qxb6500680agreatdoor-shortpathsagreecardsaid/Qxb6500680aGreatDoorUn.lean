import Derived.Test.Qxb6500680aGreatDoorUm
import Derived.Test.Qxb6500680aGreatDoorUl
namespace Go.Proofs.Qxb6500680aGreatDoor
open Go.RowKit Go.BigFrame
set_option linter.unusedSimpArgs false
set_option linter.unusedSectionVars false
attribute [local go_sem] ext_cell_if ext_frozen_if alloc_cell_if alloc_frozen_if ext_size ext_ext calmOp calmAt
/-- A small integer's conversion: nothing is cut off. -/
theorem fi_lo (neg : Bool) (un : Nat) (h0 : un ≠ 0) (hu : U64 un) (hL : Lib.bitLen un ≤ 24) : rpN 23 127 2147483648 2139095040 8388608 neg 0 0 un false = ((125 + Lib.bitLen un) * 8388608 + un * 2 ^ (24 - Lib.bitLen un) + sgw 2147483648 neg, 0) ∧ un * 2 ^ (24 - Lib.bitLen un) < 16777216 := by
  obtain ⟨l0, l1, l2⟩ := aux_bd 64 un hu h0
  change 0 < Lib.bitLen un at l0
  change un < 2 ^ Lib.bitLen un at l2
  have eL : len128 0 un = Lib.bitLen un := by unfold len128; rw [if_pos rfl]
  unfold rpN
  rw [eL]
  generalize Lib.bitLen un = L at *
  have hs : un * 2 ^ (24 - L) < 16777216 := by
    have h1 : un * 2 ^ (24 - L) < 2 ^ L * 2 ^ (24 - L) := Nat.mul_lt_mul_of_pos_right l2 (Nat.pos_of_ne_zero (by simp))
    rw [← Nat.pow_add, show L + (24 - L) = 24 by omega] at h1
    exact h1
  refine ⟨?_, hs⟩
  clear l1 l2 hu h0 eL
  have esc : rpScale 127 ((0 : Int) + (L : Int) - 1) = (L : Int) - 1 := by unfold rpScale; rw [if_neg (by clear hs; omega)]; clear hs; omega
  have eC : rpCut 0 un ((L : Int) - 1 - ((23 : Nat) : Int) - 0) false = (un * 2 ^ (24 - L), false, false) := by
    unfold rpCut
    rw [if_pos (by clear hs; omega), show min (-((L : Int) - 1 - ((23 : Nat) : Int) - 0)).toNat 64 = 24 - L by clear hs; omega, Nat.mod_eq_of_lt (by generalize un * 2 ^ (24 - L) = z at *; omega)]
  have n1 : ¬ L = 0 := by clear hs eC esc; omega
  have n2 : ¬ ((127 : Nat) : Int) < 0 + (L : Int) - 1 := by clear hs eC esc; omega
  rw [if_neg n1, if_neg n2, esc, eC]
  unfold rpEnd
  have eU : rpUp (un * 2 ^ (24 - L), false, false) = un * 2 ^ (24 - L) := by unfold rpUp; rfl
  have eM : rpMag 8388608 127 ((L : Int) - 1) (un * 2 ^ (24 - L)) = (125 + L) * 8388608 + un * 2 ^ (24 - L) := by
    unfold rpMag
    rw [show ((L : Int) - 1 + ((127 : Nat) : Int) - 1).toNat = 125 + L by clear hs eC esc eU; omega]
    refine magE _ _ _ ?_
    generalize un * 2 ^ (24 - L) = z at *
    clear eC eU esc
    omega
  rw [eU, esc, eM, if_neg]
  · rfl
  · generalize un * 2 ^ (24 - L) = z at *
    clear eC eU esc eM
    omega
theorem fi_hi (neg : Bool) (un : Nat) (h0 : un ≠ 0) (hu : U64 un) (hL : ¬ Lib.bitLen un ≤ 24) : rpN 23 127 2147483648 2139095040 8388608 neg 0 0 un false = shN 23 8388608 2139095040 2147483648 neg 150 un (Lib.bitLen un) := by
  have eL : len128 0 un = Lib.bitLen un := by unfold len128; rw [if_pos rfl]
  have hl := len_le un
  have h := fk32.rpX neg 150 0 un (by unfold U64; decide) hu (by rw [Nat.zero_mul, Nat.zero_add]; exact h0) (by decide) (by decide) (by rw [eL]; omega) (by rw [eL]; omega)
  rw [Nat.zero_mul, Nat.zero_add, eL] at h
  exact h
theorem and1_32 (a : Nat) (h : a < 4294967296) : (bits .and .u32 (a : Int) 1 != 0) = (a % 2 == 1) := by
  rw [show bits .and .u32 (a : Int) 1 = bits .and .u64 (a : Int) 1 from ad32 a 1 h (by decide)]
  exact and1 a (by unfold U64; omega)
theorem num105 (L us : Nat) (h1 : L ≤ 32) (h2 : us ≤ 16777216) : IntKind.u32.wrap ((125 + (L : Int)) * 8388608) = (((125 + L) * 8388608 : Nat) : Int) ∧ IntKind.u32.wrap ((((125 + L) * 8388608 : Nat) : Int) + (us : Int)) = (((125 + L) * 8388608 + us : Nat) : Int) := by
  simp only [IntKind.wrap_u32]
  omega
theorem wr32 (z : Nat) (h : z < 4294967296) : IntKind.u32.wrap (z : Int) = (z : Int) := by rw [IntKind.wrap_u32]; omega
theorem s105 (n : Int) (n0 : -2147483648 ≤ n) (n1 : n ≤ 2147483647) : ∃ (r : Nat) (fl : Int), r < 2 * 2147483648 ∧ (∀ w, Calls Tryz.prog 48 #[.agg #[.int .u64 32, .int .u64 8, .int .u64 23], .int .i64 n, .int .u8 0] w (Rt (.tuple #[.int .u64 r, .int .u8 fl]) w)) ∧ ∀ w, Calls Tryz.prog 105 #[.int .i32 n] w (Rt (.tuple #[.int .u32 r, .int .u8 fl]) w) := by
  have CC := fun w => fk32.fromInt n (by omega) (by omega) w
  have hlt := fk32.rp_lt (decide (n < 0)) 0 0 n.natAbs false
  refine ⟨_, _, hlt, CC, fun w => ?_⟩
  clear CC hlt
  by_cases c4 : n = 0
  · subst c4
    have e : rpN 23 127 2147483648 2139095040 8388608 (decide ((0 : Int) < 0)) 0 0 (0 : Int).natAbs false = (0, 0) := by rfl
    rw [e]
    go_enter Tryz.func105, Tryz.ntmps105
    go_wp2_with (fail)
    go_ret2
    exact ⟨by simp, Gr.of (by repeat (first | exact Gr.refl _ | refine Gr.alloc ?_ _ | refine Gr.ext ?_ _ | refine Gr.drew ?_))⟩
  have hu : U64 n.natAbs := by unfold U64; omega
  have h0 : n.natAbs ≠ 0 := by omega
  obtain ⟨q1, q2, q3⟩ := len_bd n.natAbs 32 (by omega) h0 hu
  have hN1 : (n % 4294967296).toNat < 4294967296 := by omega
  have hSG := s32w (n % 4294967296).toNat (by omega)
  rw [sgn_w32 n n0 n1] at hSG
  have e5 : IntKind.u32.wrap n = (((n % 4294967296).toNat : Nat) : Int) := by rw [IntKind.wrap_u32]; omega
  have hN : (n < 0 ∧ IntKind.u32.wrap (-(((n % 4294967296).toNat : Nat) : Int)) = ((n.natAbs : Nat) : Int)) ∨ (¬ n < 0 ∧ (((n % 4294967296).toNat : Nat) : Int) = ((n.natAbs : Nat) : Int)) := by
    rw [IntKind.wrap_u32]
    omega
  have hun : n.natAbs < 4294967296 := by omega
  have hub : n.natAbs ≤ 2147483648 := by omega
  have e1 : (n == 0) = false := by simpa using c4
  have C198 := hidden (fun w => len32_u n.natAbs (by omega) w)
  have hs31 : ∀ v : Nat, v < 2147483648 → bits .or .u32 ((sgw 2147483648 (decide (n < 0)) : Nat) : Int) (v : Int) = ((sgw 2147483648 (decide (n < 0)) + v : Nat) : Int) := fun v hv => or_s _ v hv
  by_cases cL : Lib.bitLen n.natAbs ≤ 24
  · obtain ⟨hX, hus⟩ := fi_lo (decide (n < 0)) n.natAbs h0 hu cL
    rw [hX]
    clear hX q2 q3 n0 n1 c4
    generalize n.natAbs = un at *
    generalize hLL : Lib.bitLen un = L at *
    generalize decide (n < 0) = ng at *
    generalize (n % 4294967296).toNat = N at *
    have hw : IntKind.u32.wrap ((un : Int) * 2 ^ (24 - L)) = ((un * 2 ^ (24 - L) : Nat) : Int) := by
      have e : (un : Int) * 2 ^ (24 - L) = ((un * 2 ^ (24 - L) : Nat) : Int) := by simp
      rw [e]
      exact wr32 _ (by generalize un * 2 ^ (24 - L) = z at *; omega)
    obtain ⟨m1, m2⟩ := num105 L (un * 2 ^ (24 - L)) q1 (Nat.le_of_lt hus)
    refine w105 n N ((sgw 2147483648 ng : Nat) : Int) un L (((125 + L) * 8388608 : Nat) : Int) ((un * 2 ^ (24 - L) : Nat) : Int) 0 1 0 _ (((125 + L) * 8388608 + un * 2 ^ (24 - L) : Nat) : Int) 0 _ _ _ 0 (24 - L) _ _ e1 e5 hSG hN C198 (by clear hs31 m1 m2 hw hus; omega) (by decide) (by clear hs31 m1 m2 hw hus; omega) m1 rfl (hidden (fun w => ties_eq 0 0 _ (fun h => absurd rfl h) w)) rfl rfl rfl (by decide) (.inl ⟨by clear hs31 m1 m2 hw hus; omega, by clear hs31 m1 m2 hw hus; omega, hw, m2, ?_, rfl⟩) w
    rw [hs31 _ (by generalize un * 2 ^ (24 - L) = z at *; omega), Nat.add_comm]
  · have hX := fi_hi (decide (n < 0)) n.natAbs h0 hu cL
    rw [hX]
    have hku := shUp_le 23 _ _ q3
    clear hX q2 q3 n0 n1 c4
    generalize n.natAbs = un at *
    generalize hLL : Lib.bitLen un = L at *
    generalize decide (n < 0) = ng at *
    generalize (n % 4294967296).toNat = N at *
    obtain ⟨m1, m2⟩ := num105 L (shUp 23 un L) q1 hku
    obtain ⟨D, hD⟩ : ∃ D, L - 24 = D := ⟨_, rfl⟩
    have hDb : D ≤ 8 := by clear hs31 m1 m2 hku; omega
    have p1 : 2 ^ D ≤ 2 ^ 8 := Nat.pow_le_pow_right (by decide) hDb
    have p0 : 0 < 2 ^ D := Nat.pos_of_ne_zero (by simp)
    have k1 : IntKind.u32.wrap ((2 : Int) ^ D) = ((2 ^ D : Nat) : Int) := by
      have e : (2 : Int) ^ D = ((2 ^ D : Nat) : Int) := by simp
      rw [e]
      exact wr32 _ (by generalize 2 ^ D = z at *; omega)
    have k2 : IntKind.u32.wrap (((2 ^ D : Nat) : Int) - 1) = ((2 ^ D - 1 : Nat) : Int) := by
      clear k1
      generalize 2 ^ D = z at *
      rw [IntKind.wrap_u32]
      omega
    have k3 : bits .and .u32 (un : Int) ((2 ^ D - 1 : Nat) : Int) = ((un % 2 ^ D : Nat) : Int) := by
      rw [ad32 _ _ hun (by clear k1 k2; generalize 2 ^ D = z at *; omega)]
      exact and_low D (by omega) un hu
    have hkl : un / 2 ^ D ≤ un := Nat.div_le_self _ _
    have k4 : un / 2 ^ D < 4294967295 := by
      generalize un / 2 ^ D = q at *
      clear k1 k2 k3 m1 m2 hs31
      omega
    have k5 : IntKind.u32.wrap (((un / 2 ^ D : Nat) : Int) + 1) = ((un / 2 ^ D + 1 : Nat) : Int) := by
      rw [show ((un / 2 ^ D : Nat) : Int) + 1 = ((un / 2 ^ D + 1 : Nat) : Int) by simp]
      exact wr32 _ (by omega)
    have hT : (if tieN (un % 2 ^ D) D (un / 2 ^ D % 2 == 1) then ((un / 2 ^ D + 1 : Nat) : Int) else ((un / 2 ^ D : Nat) : Int)) = ((shUp 23 un L : Nat) : Int) := by
      subst hD
      unfold shUp
      split <;> rfl
    have hml : un % 2 ^ D < 2 ^ D := Nat.mod_lt _ p0
    unfold shN
    have hout : (150 + (L - (23 + 1)) - 1) * 8388608 + shUp 23 un L = (125 + L) * 8388608 + shUp 23 un L := by
      congr 2
      clear hs31 m1 m2 hku
      omega
    rw [hout, if_neg (by generalize shUp 23 un L = z at *; clear hs31 m1 m2; omega)]
    refine w105 n N ((sgw 2147483648 ng : Nat) : Int) un L (((125 + L) * 8388608 : Nat) : Int) 0 ((un / 2 ^ D : Nat) : Int) ((un / 2 ^ D + 1 : Nat) : Int) ((un % 2 ^ D : Nat) : Int) ((shUp 23 un L : Nat) : Int) ((2 ^ D : Nat) : Int) ((2 ^ D - 1 : Nat) : Int) (((125 + L) * 8388608 + shUp 23 un L : Nat) : Int) _ _ D 0 (un / 2 ^ D % 2 == 1) (tieN (un % 2 ^ D) D (un / 2 ^ D % 2 == 1)) e1 e5 hSG hN C198 (by clear hs31 m1 m2 hku; omega) hDb (by decide) m1 (and1_32 _ (by omega)) (hidden (fun w => ties_eq _ D _ (tie_pre un D (by omega)) w)) k5 hT m2 (by clear k1 k2 k3; generalize 2 ^ D = z at *; omega) (.inr ⟨by clear hs31 m1 m2 hku; omega, by clear hs31 m1 m2 hku; omega, pw_div un D, k1, k2, k3, ?_, ?_⟩) w
    · rw [hs31 _ (by generalize shUp 23 un L = z at *; clear hs31 m1 m2; omega), Nat.add_comm]
    · rw [show L - (23 + 1) = D from hD]
      by_cases cz : un % 2 ^ D = 0
      · left
        rw [cz]
        exact ⟨rfl, by simp⟩
      · right
        exact ⟨by rw [nbeq]; simpa using cz, by simp [cz]⟩
end Go.Proofs.Qxb6500680aGreatDoor
