import Derived.Test.Qxb6500680aGreatDoorDiv
import Derived.Test.Qxb6500680aGreatDoorSig
namespace Go.Proofs.Qxb6500680aGreatDoor
open Go.RowKit Go.BigFrame
set_option linter.unusedSimpArgs false
attribute [local go_sem] ext_cell_if ext_frozen_if alloc_cell_if alloc_frozen_if ext_size ext_ext
set_option maxRecDepth 100000 in
/-- leftAlign: a significand that is not nought comes back with its topmost bit set. -/
theorem leftAlign_any (b : Bool) (x : Int) (y : Nat) (hy : y ≤ 18446744073709551615) : ∃ (x' : Int) (s : Nat), (-9223372036854775808 ≤ x' ∧ x' ≤ 9223372036854775807) ∧ s ≤ 18446744073709551615 ∧ (y ≠ 0 → 9223372036854775808 ≤ s) ∧ ∀ w : World, Calls Tryz.prog 93 #[.agg #[.bool b, .int .i64 x, .int .u64 y]] w fun e w' => e = .returned (.agg #[.bool b, .int .i64 x', .int .u64 s]) ∧ ∃ x, w' = ext w x := by
  have LZ := hidden (lz_any y hy)
  have hl := len_le y
  have HA := hidden (fun h0 : y ≠ 0 => align y hy h0)
  generalize Lib.bitLen y = L at *
  obtain ⟨s, hs, hsb⟩ := wr_nat ((y : Int) * 2 ^ (64 - L))
  have hbig : y ≠ 0 → 9223372036854775808 ≤ s := fun h0 => by
    obtain ⟨_, _, h3, h4⟩ := HA.out h0
    rw [IntKind.wrap_u64, show (y : Int) * 2 ^ (64 - L) = ((y * 2 ^ (64 - L) : Nat) : Int) by simp] at hs
    omega
  refine ⟨wrap64 (x - ((64 - L : Nat) : Int)), s, wrap64_bd _, hsb, hbig, fun w => ?_⟩
  clear hbig HA
  obtain ⟨S, hS, hS1⟩ : ∃ S : Nat, (64 : Int) - (L : Int) = S ∧ S = 64 - L := ⟨64 - L, by omega, rfl⟩
  rw [hS] at LZ
  have hSb : S ≤ 64 := by omega
  clear hS
  go_enter Tryz.func93, Tryz.ntmps93
  go_wp2_with (go_at_call 193; (with_reducible refine (LZ.out _).mono ?_); rintro _ _ ⟨rfl, rfl⟩)
  try simp only [hs]
  exact bodyPost_ret (v := .agg #[.bool b, .int .i64 (wrap64 (x - ((64 - L : Nat) : Int))), .int .u64 s]) (by simp [results, Tryz.results93, go_sem, ↓IntWalk.iteOmega]) rfl ⟨rfl, (((Gr.refl w).alloc _).alloc _).of⟩
end Go.Proofs.Qxb6500680aGreatDoor
