import Derived.Test.Qxb6500680aGreatDoorUnp
namespace Go.Proofs.Qxb6500680aGreatDoor
open Go.RowKit Go.BigFrame
set_option linter.unusedSimpArgs false
attribute [local go_sem] ext_cell_if ext_frozen_if alloc_cell_if alloc_frozen_if ext_size ext_ext
theorem wide64_any (y : Nat) (w : World) : Calls Tryz.prog 149 #[.int .u64 y] w fun e w' => e = .returned (.agg #[.int .u64 0, .int .u64 y]) ∧ ∃ x, w' = ext w x := by
  go_enter Tryz.func149, Tryz.ntmps149
  go_wp2_with (fail)
  exact bodyPost_ret (v := .agg #[.int .u64 0, .int .u64 y]) (by simp [results, Tryz.results149, go_sem, ↓IntWalk.iteOmega]) rfl ⟨rfl, Gr.of (by repeat (first | exact Gr.refl _ | refine Gr.alloc ?_ _ | refine Gr.ext ?_ _ | refine Gr.drew ?_ | refine Gr.setCell ?_ (by simp) _))⟩
/-- A shift up of a single word, by at most 63. -/
def ShlOK (w : World) (e : Ending) (w' : World) : Prop := ∃ h l : Nat, e = .returned (.agg #[.int .u64 h, .int .u64 l]) ∧ h < 9223372036854775808 ∧ l ≤ 18446744073709551615 ∧ ∃ x, w' = ext w x
set_option maxRecDepth 100000 in
theorem shl_any (y s : Nat) (hy : y ≤ 18446744073709551615) (hs : s ≤ 63) (w : World) : Calls Tryz.prog 197 #[.agg #[.int .u64 0, .int .u64 y], .int .u64 s] w (ShlOK w) := by
  go_enter Tryz.func197, Tryz.ntmps197
  by_cases h0 : s = 0
  · subst h0
    go_wp2_with (fail)
    exact bodyPost_ret (v := .agg #[.int .u64 ((0 : Nat) : Int), .int .u64 y]) (by simp [results, Tryz.results197, go_sem, ↓IntWalk.iteOmega]) rfl ⟨0, y, rfl, by omega, hy, Gr.of (by repeat (first | exact Gr.refl _ | refine Gr.alloc ?_ _ | refine Gr.ext ?_ _ | refine Gr.setCell ?_ (by simp) _))⟩
  · go_wp2_with (fail)
    have hq : y / 2 ^ (64 - s) < 9223372036854775808 := by
      have h1 : 2 ^ 1 ≤ 2 ^ (64 - s) := Nat.pow_le_pow_right (by omega) (by omega)
      have h2 : y / 2 ^ (64 - s) ≤ y / 2 ^ 1 := Nat.div_le_div_left h1 (by omega)
      omega
    obtain ⟨q, hqe⟩ : ∃ q, y / 2 ^ (64 - s) = q := ⟨_, rfl⟩
    obtain ⟨l, hl, hlb⟩ := wr_nat ((y : Int) * 2 ^ s)
    have eO : bits .or .u64 0 ((y : Int) / 2 ^ (64 - s)) = (q : Int) := by
      rw [show (y : Int) / 2 ^ (64 - s) = ((y / 2 ^ (64 - s) : Nat) : Int) by simp, hqe]
      have h := or_low 63 0 q (by omega) (by omega)
      simpa using h
    rw [hqe] at hq
    simp only [eO, hl]
    exact bodyPost_ret (v := .agg #[.int .u64 q, .int .u64 l]) (by simp [results, Tryz.results197, go_sem, ↓IntWalk.iteOmega]) rfl ⟨q, l, rfl, hq, hlb, Gr.of (by repeat (first | exact Gr.refl _ | refine Gr.alloc ?_ _ | refine Gr.ext ?_ _ | refine Gr.drew ?_ | refine Gr.setCell ?_ (by simp) _))⟩
/-- What quoAligned answers. -/
def QuoOK (w : World) (e : Ending) (w' : World) : Prop := ∃ (n s : Int), e = .returned (.tuple #[.int .i64 n, .int .u8 s]) ∧ (-9223372036854775808 ≤ n ∧ n ≤ 9223372036854775807) ∧ (0 ≤ s ∧ s ≤ 255) ∧ ∃ x, w' = ext w x
set_option maxRecDepth 100000 in
set_option maxHeartbeats 1000000 in
theorem quoAligned_any (b b' : Bool) (x x' : Int) (s s' : Nat) (n : Nat) (hs : s ≤ 18446744073709551615) (hs1 : 9223372036854775808 ≤ s') (hs2 : s' ≤ 18446744073709551615) (hn : n ≤ 63) (w : World) : Calls Tryz.prog 98 #[.agg #[.bool b, .int .i64 x, .int .u64 s], .agg #[.bool b', .int .i64 x', .int .u64 s'], .int .u64 n] w (QuoOK w) := by
  have H1 := hidden hs1
  clear hs1
  have hd := wrap64_bd (x - x')
  generalize hD : wrap64 (x - x') = D at *
  go_enter Tryz.func98, Tryz.ntmps98
  go_upto_if 18 with (fail)
  simp only [hD]
  clear hD
  by_cases h0 : D < 0
  · go_wp2_with (fail)
    go_ret2
    exact ⟨0, 0, rfl, by omega, by omega, Gr.of (by repeat (first | exact Gr.refl _ | refine Gr.alloc ?_ _ | refine Gr.ext ?_ _ | refine Gr.drew ?_ | refine Gr.setCell ?_ (by simp) _))⟩
  go_upto_if 22 with (fail)
  by_cases h1 : D > n
  · go_wp2_with (fail)
    go_ret2
    exact ⟨0, 1, rfl, by omega, by omega, Gr.of (by repeat (first | exact Gr.refl _ | refine Gr.alloc ?_ _ | refine Gr.ext ?_ _ | refine Gr.drew ?_ | refine Gr.setCell ?_ (by simp) _))⟩
  obtain ⟨d, rfl⟩ : ∃ d : Nat, D = d := ⟨D.toNat, by omega⟩
  have SH := hidden (fun w => shl_any s d hs (by omega) w)
  go_upto_region 7 with (first | (go_at_call 149; (with_reducible refine (wide64_any s _).mono ?_); rintro _ _ ⟨rfl, x1, rfl⟩) | (go_at_call 197; (with_reducible refine (SH.out _).mono ?_); rintro _ _ ⟨h, l, rfl, hh, hl, x2, rfl⟩))
  have DV := hidden (fun w => div64_any h l s' (by have := H1.out; omega) hl hs2 w)
  go_upto_if 42 with (go_at_call 148; (with_reducible refine (DV.out _).mono ?_); rintro _ _ ⟨q, r, rfl, hq, hr, x3, rfl⟩)
  go_wp2_with (fail)
  all_goals go_ret2
  · exact ⟨0, 1, rfl, by omega, by omega, Gr.of (by repeat (first | exact Gr.refl _ | refine Gr.alloc ?_ _ | refine Gr.ext ?_ _ | refine Gr.drew ?_ | refine Gr.setCell ?_ (by simp) _))⟩
  · exact ⟨_, 0, rfl, wrap64_bd _, by omega, Gr.of (by repeat (first | exact Gr.refl _ | refine Gr.alloc ?_ _ | refine Gr.ext ?_ _ | refine Gr.drew ?_ | refine Gr.setCell ?_ (by simp) _))⟩
  · exact ⟨_, 0, rfl, wrap64_bd _, by omega, Gr.of (by repeat (first | exact Gr.refl _ | refine Gr.alloc ?_ _ | refine Gr.ext ?_ _ | refine Gr.drew ?_ | refine Gr.setCell ?_ (by simp) _))⟩
end Go.Proofs.Qxb6500680aGreatDoor
