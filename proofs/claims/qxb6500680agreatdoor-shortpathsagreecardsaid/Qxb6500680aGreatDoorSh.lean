import Derived.Test.Qxb6500680aGreatDoorSg
namespace Go.Proofs.Qxb6500680aGreatDoor
open Go.RowKit Go.BigFrame
set_option linter.unusedSimpArgs false
set_option linter.unusedSectionVars false
attribute [local go_sem] ext_cell_if ext_frozen_if alloc_cell_if alloc_frozen_if ext_size ext_ext calmOp calmAt
theorem quoN_bd (ng : Bool) (d : Int) (s s' : Nat) : -16777216 < (quoN ng d s s').1 ∧ (quoN ng d s s').1 < 16777216 := by
  unfold quoN
  split
  · exact ⟨by decide, by decide⟩
  split
  · exact ⟨by decide, by decide⟩
  split
  · exact ⟨by decide, by decide⟩
  generalize s * 2 ^ d.toNat / s' = q at *
  split <;> dsimp only <;> omega
theorem qtN_bd (F BI SM EM HB MB a b : Nat) : -16777216 < (qtN F BI SM EM HB MB a b).1 ∧ (qtN F BI SM EM HB MB a b).1 < 16777216 := by
  unfold qtN
  split
  · exact ⟨by decide, by decide⟩
  split
  · exact ⟨by decide, by decide⟩
  split
  · exact ⟨by decide, by decide⟩
  split
  · exact ⟨by decide, by decide⟩
  exact quoN_bd _ _ _ _
section
variable {W E F BI SM MM PM HB FM EM QB MB : Nat} (k : Fk W E F BI SM MM PM HB FM EM QB MB)
include k
theorem Fk.truncN_bd (hF : 23 ≤ F) (p : Nat) : -16777216 < (truncN F BI SM HB EM p).1 ∧ (truncN F BI SM HB EM p).1 < 16777216 := by
  unfold truncN
  split
  · exact ⟨by decide, by decide⟩
  split
  · exact ⟨by decide, by decide⟩
  split
  · exact ⟨by decide, by decide⟩
  rename_i c1 c2 c3
  have hwb : (HB + p % HB) / 2 ^ (F + BI - p % SM / HB) < 16777216 := by
    have h1 : HB + p % HB < 2 ^ (F + 1) := by rw [Nat.pow_succ, ← k.r8, Nat.mul_two]; exact Nat.add_lt_add_left (Nat.mod_lt _ k.hp) _
    have h2 : 2 ^ (F + 1) ≤ 2 ^ (24 + (F + BI - p % SM / HB)) := Nat.pow_le_pow_right (by decide) (by omega)
    rw [Nat.pow_add 2 24] at h2
    exact (Nat.div_lt_iff_lt_mul (Nat.pos_of_ne_zero (by simp))).2 (Nat.lt_of_lt_of_le h1 h2)
  generalize (HB + p % HB) / 2 ^ (F + BI - p % SM / HB) = V at *
  split <;> dsimp only <;> omega
set_option maxRecDepth 100000 in
theorem Fk.quo24 (a b : Nat) (ha : U64 a) (hb : U64 b) (w : World) : Calls Tryz.prog 36 #[(.agg #[.int .u64 W, .int .u64 E, .int .u64 F]), .int .u64 a, .int .u64 b] w (Rt (.tuple #[.int .i32 (qtN F BI SM EM HB MB a b).1, .int .u8 (qtN F BI SM EM HB MB a b).2]) w) := by
  have C144 := hidden (fun w => k.quoTrunc a b ha hb w)
  obtain ⟨h1, h2⟩ := qtN_bd F BI SM EM HB MB a b
  generalize qtN F BI SM EM HB MB a b = R at *
  obtain ⟨r1, r2⟩ := R
  dsimp only at C144 h1 h2 ⊢
  have hw : IntKind.i32.wrap r1 = r1 := by rw [IntKind.wrap_i32]; omega
  clear k h1 h2 ha hb
  go_enter Tryz.func36, Tryz.ntmps36
  go_wp2_with (go_at_call 144; (with_reducible refine (C144.out _).mono ?_); rintro _ _ ⟨rfl, x144, rfl⟩)
  go_ret2
  exact ⟨by simp [hw], Gr.of (by repeat (first | exact Gr.refl _ | refine Gr.alloc ?_ _ | refine Gr.ext ?_ _ | refine Gr.drew ?_))⟩
set_option maxRecDepth 100000 in
theorem Fk.trunc24 (p : Nat) (hp : U64 p) (hF : 23 ≤ F) (w : World) : Calls Tryz.prog 59 #[(.agg #[.int .u64 W, .int .u64 E, .int .u64 F]), .int .u64 p] w (Rt (.tuple #[.int .i32 (truncN F BI SM HB EM p).1, .int .u8 (truncN F BI SM HB EM p).2]) w) := by
  have C172 := hidden (fun w => k.truncBounded p hp hF w)
  obtain ⟨h1, h2⟩ := k.truncN_bd hF p
  generalize truncN F BI SM HB EM p = R at *
  obtain ⟨r1, r2⟩ := R
  dsimp only at C172 h1 h2 ⊢
  have hw : IntKind.i32.wrap r1 = r1 := by rw [IntKind.wrap_i32]; omega
  clear k h1 h2 hp hF
  go_enter Tryz.func59, Tryz.ntmps59
  go_wp2_with (go_at_call 172; (with_reducible refine (C172.out _).mono ?_); rintro _ _ ⟨rfl, x172, rfl⟩)
  go_ret2
  exact ⟨by simp [hw], Gr.of (by repeat (first | exact Gr.refl _ | refine Gr.alloc ?_ _ | refine Gr.ext ?_ _ | refine Gr.drew ?_))⟩
end
end Go.Proofs.Qxb6500680aGreatDoor
