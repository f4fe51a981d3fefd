import Derived.Test.Qxb6500680aGreatDoorSx
namespace Go.Proofs.Qxb6500680aGreatDoor
open Go.RowKit Go.BigFrame
set_option linter.unusedSimpArgs false
set_option linter.unusedSectionVars false
attribute [local go_sem] ext_cell_if ext_frozen_if alloc_cell_if alloc_frozen_if ext_size ext_ext calmOp calmAt
set_option maxRecDepth 100000 in
theorem add_det (a b c d : Nat) (hb : U64 b) (hd : U64 d) : ∃ M L : Nat, U64 M ∧ U64 L ∧ ∀ w, Calls Tryz.prog 152 #[(.agg #[.int .u64 a, .int .u64 b]), (.agg #[.int .u64 c, .int .u64 d])] w (Rt (.agg #[.int .u64 M, .int .u64 L]) w) := by
  unfold U64 at hb hd
  have q1 : ∀ W, (callFunc 205 #[.int .u64 b, .int .u64 d, .int .u64 0]).run Tryz.prog W = _ := fun W => r205 b d 0 (by omega) W
  obtain ⟨L, hL⟩ : ∃ L : Nat, (b + d + 0) % 18446744073709551616 = L := ⟨_, rfl⟩
  obtain ⟨Y, hY⟩ : ∃ Y : Nat, (b + d + 0) / 18446744073709551616 = Y := ⟨_, rfl⟩
  have q2 : ∀ W, (callFunc 205 #[.int .u64 a, .int .u64 c, .int .u64 Y]).run Tryz.prog W = _ := fun W => r205 a c Y (by rw [← hY]; first | omega | (split <;> omega)) W
  obtain ⟨M, hM⟩ : ∃ M : Nat, (a + c + Y) % 18446744073709551616 = M := ⟨_, rfl⟩
  obtain ⟨Z, hZ⟩ : ∃ Z : Nat, (a + c + Y) / 18446744073709551616 = Z := ⟨_, rfl⟩
  rw [hL, hY] at q1
  rw [hM, hZ] at q2
  refine ⟨M, L, by rw [← hM]; exact modU _, by rw [← hL]; exact modU _, fun w => ?_⟩
  clear hL hY hM hZ hb hd
  go_enter Tryz.func152, Tryz.ntmps152
  go_wp2
  exact bodyPost_ret (v := .agg #[.int .u64 M, .int .u64 L]) (by simp [results, Tryz.results152, go_sem, ↓IntWalk.iteOmega]) rfl ⟨rfl, ((((Gr.refl w).alloc _).alloc _).alloc _).of⟩
set_option maxRecDepth 100000 in
theorem sub_det (a b c d : Nat) : ∃ M L : Nat, U64 M ∧ U64 L ∧ ∀ w, Calls Tryz.prog 154 #[(.agg #[.int .u64 a, .int .u64 b]), (.agg #[.int .u64 c, .int .u64 d])] w (Rt (.agg #[.int .u64 M, .int .u64 L]) w) := by
  have q1 : ∀ W, (callFunc 206 #[.int .u64 b, .int .u64 d, .int .u64 0]).run Tryz.prog W = _ := fun W => r206 b d 0 (by omega) W
  obtain ⟨L, hL⟩ : ∃ L : Nat, (b + 18446744073709551616 - d - 0) % 18446744073709551616 = L := ⟨_, rfl⟩
  obtain ⟨Y, hY⟩ : ∃ Y : Nat, (if b < d + 0 then 1 else 0) = Y := ⟨_, rfl⟩
  have q2 : ∀ W, (callFunc 206 #[.int .u64 a, .int .u64 c, .int .u64 Y]).run Tryz.prog W = _ := fun W => r206 a c Y (by rw [← hY]; first | omega | (split <;> omega)) W
  obtain ⟨M, hM⟩ : ∃ M : Nat, (a + 18446744073709551616 - c - Y) % 18446744073709551616 = M := ⟨_, rfl⟩
  obtain ⟨Z, hZ⟩ : ∃ Z : Nat, (if a < c + Y then 1 else 0) = Z := ⟨_, rfl⟩
  rw [hL, hY] at q1
  rw [hM, hZ] at q2
  refine ⟨M, L, by rw [← hM]; exact modU _, by rw [← hL]; exact modU _, fun w => ?_⟩
  clear hL hY hM hZ
  go_enter Tryz.func154, Tryz.ntmps154
  go_wp2
  exact bodyPost_ret (v := .agg #[.int .u64 M, .int .u64 L]) (by simp [results, Tryz.results154, go_sem, ↓IntWalk.iteOmega]) rfl ⟨rfl, ((((Gr.refl w).alloc _).alloc _).alloc _).of⟩
set_option maxRecDepth 100000 in
theorem cmp_det (a b c d : Nat) : ∃ z : Int, (z = 0 ∨ z = -1 ∨ z = 1) ∧ ∀ w, Calls Tryz.prog 153 #[(.agg #[.int .u64 a, .int .u64 b]), (.agg #[.int .u64 c, .int .u64 d])] w (Rt (.int .i64 z) w) := by
  by_cases c1 : a < c
  · refine ⟨-1, by omega, fun w => ?_⟩
    go_enter Tryz.func153, Tryz.ntmps153
    go_wp2_with (fail)
    go_ret
    exact ⟨rfl, Gr.of (by repeat (first | exact Gr.refl _ | refine Gr.alloc ?_ _ | refine Gr.ext ?_ _ | refine Gr.drew ?_))⟩
  by_cases c2 : c < a
  · refine ⟨1, by omega, fun w => ?_⟩
    go_enter Tryz.func153, Tryz.ntmps153
    go_wp2_with (fail)
    go_ret
    exact ⟨rfl, Gr.of (by repeat (first | exact Gr.refl _ | refine Gr.alloc ?_ _ | refine Gr.ext ?_ _ | refine Gr.drew ?_))⟩
  by_cases c3 : b < d
  · refine ⟨-1, by omega, fun w => ?_⟩
    go_enter Tryz.func153, Tryz.ntmps153
    go_wp2_with (fail)
    go_ret
    exact ⟨rfl, Gr.of (by repeat (first | exact Gr.refl _ | refine Gr.alloc ?_ _ | refine Gr.ext ?_ _ | refine Gr.drew ?_))⟩
  by_cases c4 : d < b
  · refine ⟨1, by omega, fun w => ?_⟩
    go_enter Tryz.func153, Tryz.ntmps153
    go_wp2_with (fail)
    go_ret
    exact ⟨rfl, Gr.of (by repeat (first | exact Gr.refl _ | refine Gr.alloc ?_ _ | refine Gr.ext ?_ _ | refine Gr.drew ?_))⟩
  · refine ⟨0, by omega, fun w => ?_⟩
    go_enter Tryz.func153, Tryz.ntmps153
    go_wp2_with (fail)
    go_ret
    exact ⟨rfl, Gr.of (by repeat (first | exact Gr.refl _ | refine Gr.alloc ?_ _ | refine Gr.ext ?_ _ | refine Gr.drew ?_))⟩
set_option maxRecDepth 100000 in
set_option maxHeartbeats 1000000 in
theorem shrSticky_eq (hi lo n : Nat) (hh : U64 hi) (hl : U64 lo) (w : World) : Calls Tryz.prog 151 #[(.agg #[.int .u64 hi, .int .u64 lo]), .int .u64 n] w (Rt (.tuple #[.agg #[.int .u64 ((shr128 hi lo n).1 : Nat), .int .u64 ((shr128 hi lo n).2 : Nat)], .bool (any128 hi lo n)]) w) := by
  have C203 := hidden (fun w => shr_eq hi lo n hl w)
  have C204 := hidden (fun w => any_eq hi lo n hh hl w)
  generalize shr128 hi lo n = r at *
  generalize any128 hi lo n = z at *
  obtain ⟨r1, r2⟩ := r
  dsimp only at C203 ⊢
  clear hh hl
  go_enter Tryz.func151, Tryz.ntmps151
  go_upto_region 1 with (fail)
  go_region_with (first | (go_at_call 203; (with_reducible refine (C203.out _).mono ?_); rintro _ _ ⟨rfl, x203, rfl⟩) | (go_at_call 204; (with_reducible refine (C204.out _).mono ?_); rintro _ _ ⟨rfl, x204, rfl⟩))
  all_goals
    go_wp2_with (fail)
    exact bodyPost_ret (v := .tuple #[.agg #[.int .u64 r1, .int .u64 r2], .bool z]) (by simp [results, Tryz.results151, go_sem, ↓IntWalk.iteOmega]) rfl ⟨rfl, Gr.of (by repeat (first | with_reducible exact Gr.refl _ | with_reducible refine Gr.ext ?_ _ | with_reducible refine Gr.setCell ?_ (by simp) _ | with_reducible refine Gr.alloc ?_ _ | with_reducible refine Gr.drew ?_))⟩
section
variable {W E F BI SM MM PM HB FM EM QB MB : Nat} (k : Fk W E F BI SM MM PM HB FM EM QB MB)
include k
theorem Fk.zeroSum (w : World) : Calls Tryz.prog 150 #[(.agg #[.int .u64 W, .int .u64 E, .int .u64 F]), .int .u8 0] w (Rt (.int .u64 (sgw SM false : Nat)) w) := by
  have C94 := hidden (fun w => k.zero false w)
  clear k
  go_enter Tryz.func150, Tryz.ntmps150
  go_wp2_with (go_at_call 94; (with_reducible refine (C94.out _).mono ?_); rintro _ _ ⟨rfl, x94, rfl⟩)
  go_ret
  exact ⟨rfl, Gr.of (by repeat (first | exact Gr.refl _ | refine Gr.alloc ?_ _ | refine Gr.ext ?_ _ | refine Gr.drew ?_))⟩
end
end Go.Proofs.Qxb6500680aGreatDoor
