import Derived.Test.Qxb6500680aGreatDoorMore
import Derived.Test.Qxb6500680aGreatDoorFloat
import Derived.Deep.DeepCutAuto
namespace Go.Proofs.Qxb6500680aGreatDoor
open Go.RowKit Go.BigFrame
set_option linter.unusedSimpArgs false
theorem cls_test (k c : Int) : (!(decide (c = k) == (k == c))) = false := by
  by_cases h : c = k
  · subst h; simp
  · have h' : (k == c) = false := by rw [beq_eq_false_iff_ne]; exact fun e => h e.symm
    rw [h', decide_eq_false h]; rfl
attribute [local go_sem] ext_cell_if ext_frozen_if alloc_cell_if alloc_frozen_if ext_size ext_ext calmOp calmAt
set_option maxHeartbeats 2000000 in
theorem classHolds32 (p : Int) (neg q : Bool) (s e f : Int) (hp : Pat32 p neg q s e f) (c : Int) (hc : ClsEF 255 e f c) (w : World) (g : Glob w) :
    Calls Tryz.prog 14 #[.int .i64 32, .int .u64 p] w fun r w' => r = .returned (.bool true) ∧ ∃ x, w' = ext w x := by
  have HP := hp
  have HC := hc
  obtain ⟨p0, p1, s0, e0, e1, f0, f1, -, -, -, -, mg, qt, qn, -, -, -, -, -, -, -, -⟩ := hp
  have HM := cls32_of e0 e1 f0 f1 hc
  clear hc s0
  go_enter Tryz.func14, Tryz.ntmps14
  go_wp2_with (first | (go_at_call 15; refine (format32 _ (g.gr (by repeat (first | exact Gr.refl _ | refine Gr.alloc ?_ _ | refine Gr.ext ?_ _ | refine Gr.drew ?_ | refine Gr.setCell ?_ (by simp) _)))).mono ?_; rintro r w' ⟨rfl, x, rfl⟩) | (go_at_call 19; refine (of32 _).mono ?_; rintro r w' ⟨rfl, x, rfl⟩) | (go_at_call 72; refine (classify32 p _ c mg HM _).mono ?_; rintro r w' ⟨rfl, x, rfl⟩) | (go_at_call 73; refine (class32 p neg q s e f HP c HC _).mono ?_; rintro r w' ⟨rfl, x, rfl⟩))
  rename_i xa xb xc _ _
  refine wp_gen (fun w1 => w1.cell? ⟨w.heap.size + (cat xa xb 0).1.size, 0, none⟩ = some (.int .u64 32) ∧ w1.cell? ⟨w.heap.size + (cat xa xb 0).1.size, 1, none⟩ = some (.int .u64 8) ∧ w1.cell? ⟨w.heap.size + (cat xa xb 0).1.size, 2, none⟩ = some (.int .u64 23) ∧ w.heap.size + (cat xa xb 0).1.size < w1.heap.size ∧ Gr w.heap.size w w1)
    ⟨by simp [go_sem, ↓IntWalk.iteOmega], by simp [go_sem, ↓IntWalk.iteOmega], by simp [go_sem, ↓IntWalk.iteOmega], by simp [go_sem]; omega, (by repeat (first | exact Gr.refl _ | refine Gr.alloc ?_ _ | refine Gr.ext ?_ _ | refine Gr.drew ?_ | refine Gr.setCell ?_ (by simp) _))⟩ ?_
  rintro w1 ⟨k0, k1, k2, hlt, hgr⟩
  have hb5 : w.heap.size ≤ w.heap.size + (cat xa xb 0).1.size := by omega
  generalize w.heap.size + (cat xa xb 0).1.size = b5 at *
  clear xa xb xc x
  refine wp_region_float 16 17 [⟨16, 8, .cells #[.bool false, .bool false, .bool false, .bool false, .bool false] 120⟩] (by kernel_rfl) (by kernel_rfl) (by kernel_rfl) (by simp [go_sem]) ?_
  simp only [List.take_succ_cons, List.take_zero, List.drop_succ_cons, List.drop_zero]
  repeat (refine wpCalm_step (fun K hK => ?_); go_simp; first | (refine hK _ ?_; clear hK K) | (apply Exists.intro; refine ⟨fun _ => ?_, hK _ ?_⟩; (first | (go_at_call 74; exact Calls_ext3 (isZero32 p _ c mg HM _)) | (go_at_call 75; exact Calls_ext3 (isDenormal32 p _ c mg HM _)) | (go_at_call 76; exact Calls_ext3 (isNormal32 p _ c mg HM _)) | (go_at_call 77; exact Calls_ext3 (isInf32 p _ c mg HM _)) | (go_at_call 78; exact Calls_ext3 (isNaN32 p _ c mg HM _))); clear hK K))
  refine wpCalm_nil ?_
  intro bb W hM
  obtain ⟨m1, m2, m3⟩ := hM.one
  simp only [actOf_cons, actOf_nil, if_true] at m1 m2 ⊢
  generalize bb 16 = b8 at *
  clear hM
  have hlt8 := lt_of_cells m2
  have z0 := cell_of_cells m2 0
  have z1 := cell_of_cells m2 1
  have z2 := cell_of_cells m2 2
  have z3 := cell_of_cells m2 3
  have z4 := cell_of_cells m2 4
  have y0 := mark_of_cells m2
  have j0 : W.cell? ⟨b5, 0, none⟩ = some (.int .u64 32) := (m3.1.cell (p := ⟨b5, 0, none⟩) hlt).trans k0
  have j1 : W.cell? ⟨b5, 1, none⟩ = some (.int .u64 8) := (m3.1.cell (p := ⟨b5, 1, none⟩) hlt).trans k1
  have j2 : W.cell? ⟨b5, 2, none⟩ = some (.int .u64 23) := (m3.1.cell (p := ⟨b5, 2, none⟩) hlt).trans k2
  have hgrW : Gr w.heap.size w W := ⟨hgr.1.trans (m3.1.mono hgr.2), Nat.le_trans hgr.2 m3.2⟩
  have hb8 : w.heap.size ≤ b8 := Nat.le_trans hgr.2 m1
  have hne : b5 ≠ b8 := by omega
  clear m2 m3 k0 k1 k2 hgr
  simp only [Act.put]
  go_wp2
  refine wp_gen (fun W2 => W2.cell? ⟨b5, 0, none⟩ = some (.int .u64 32) ∧ W2.cell? ⟨b5, 1, none⟩ = some (.int .u64 8) ∧ W2.cell? ⟨b5, 2, none⟩ = some (.int .u64 23) ∧ b5 < W2.heap.size ∧ Gr w.heap.size w W2)
    ⟨by simp only [cell_far hne]; exact j0, by simp only [cell_far hne]; exact j1, by simp only [cell_far hne]; exact j2, by simp only [size_setCell]; omega, (by repeat (first | exact hgrW | refine Gr.setCell ?_ hb8 _))⟩ ?_
  clear hgrW j0 j1 j2 z0 z1 z2 z3 z4 y0 hlt8 m1 hne hb8 hlt W
  rintro W ⟨j0, j1, j2, hlt, hgr⟩
  have i0 : ∀ w, (Instr.index 120 (.agg #[.bool (decide (c = 0)), .bool (decide (c = 1)), .bool (decide (c = 2)), .bool (decide (c = 3)), .bool (decide (c = 4))]) (.int .i64 0)).run Tryz.prog w = .ok (.bool (decide (c = 0))) w := fun _ => by kernel_rfl
  have i1 : ∀ w, (Instr.index 120 (.agg #[.bool (decide (c = 0)), .bool (decide (c = 1)), .bool (decide (c = 2)), .bool (decide (c = 3)), .bool (decide (c = 4))]) (.int .i64 1)).run Tryz.prog w = .ok (.bool (decide (c = 1))) w := fun _ => by kernel_rfl
  have i2 : ∀ w, (Instr.index 120 (.agg #[.bool (decide (c = 0)), .bool (decide (c = 1)), .bool (decide (c = 2)), .bool (decide (c = 3)), .bool (decide (c = 4))]) (.int .i64 2)).run Tryz.prog w = .ok (.bool (decide (c = 2))) w := fun _ => by kernel_rfl
  have i3 : ∀ w, (Instr.index 120 (.agg #[.bool (decide (c = 0)), .bool (decide (c = 1)), .bool (decide (c = 2)), .bool (decide (c = 3)), .bool (decide (c = 4))]) (.int .i64 3)).run Tryz.prog w = .ok (.bool (decide (c = 3))) w := fun _ => by kernel_rfl
  have i4 : ∀ w, (Instr.index 120 (.agg #[.bool (decide (c = 0)), .bool (decide (c = 1)), .bool (decide (c = 2)), .bool (decide (c = 3)), .bool (decide (c = 4))]) (.int .i64 4)).run Tryz.prog w = .ok (.bool (decide (c = 4))) w := fun _ => by kernel_rfl
  have d0 := cls_test 0 c
  have d1 := cls_test 1 c
  have d2 := cls_test 2 c
  have d3 := cls_test 3 c
  have d4 := cls_test 4 c
  go_loop [40] (fun i => ∃ k : Nat, k ≤ 5 ∧ i = .int .i64 k) (fun i => 5 - (intOf i).toNat)
  case atStart => exact ⟨0, by omega, rfl⟩
  case round =>
    obtain ⟨k, hk, rfl⟩ := hrel
    rcases (show k = 0 ∨ k = 1 ∨ k = 2 ∨ k = 3 ∨ k = 4 ∨ k = 5 by omega) with rfl | rfl | rfl | rfl | rfl | rfl
    case inr.inr.inr.inr.inr =>
      go_wp2_with (go_at_call 30; refine (isFinite32 p _ c mg HM _).mono ?_; rintro r w' ⟨rfl, x, rfl⟩)
      by_cases h4 : c = 4
      · have h4' : decide (c = 4) = true := by simpa using h4
        clear h4 HC HP d0 d1 d2 d3 d4 i0 i1 i2 i3 i4
        have hN := fun w => isNaN32 p _ c mg HM w
        have hQ := fun w => isQuiet32 p _ c q mg HM qn w
        have hS := fun w => isSignalling32 p _ c q mg HM qt w
        simp only [h4', Bool.true_and, Bool.false_and] at hN hQ hS
        clear h4' qn qt
        cases q
        all_goals
          try simp only [Bool.not_true, Bool.not_false] at hS
          have hN := hidden hN
          have hQ := hidden hQ
          have hS := hidden hS
          refine wp_region_ext (by kernel_rfl) (by kernel_rfl) ?_
          repeat (go_big_quiet_step ((first | (go_at_call 78; first | exact Calls_ext (hN.out _) | exact Calls_ext2 (hN.out _)) | (go_at_call 79; first | exact Calls_ext (hQ.out _) | exact Calls_ext2 (hQ.out _)) | (go_at_call 80; first | exact Calls_ext (hS.out _) | exact Calls_ext2 (hS.out _)))))
          refine wpQuiet_nil ?_
          rintro _ ⟨x, rfl⟩
          go_wp2
          go_ret
          exact ⟨rfl, Gr.of (by repeat (first | exact hgr | refine Gr.ext ?_ _))⟩
      · have h4' : decide (c = 4) = false := by simpa using h4
        clear h4 HC HP d0 d1 d2 d3 d4 i0 i1 i2 i3 i4
        have hN := fun w => isNaN32 p _ c mg HM w
        have hQ := fun w => isQuiet32 p _ c q mg HM qn w
        have hS := fun w => isSignalling32 p _ c q mg HM qt w
        simp only [h4', Bool.true_and, Bool.false_and] at hN hQ hS
        clear h4' qn qt
        cases q
        all_goals
          try simp only [Bool.not_true, Bool.not_false] at hS
          have hN := hidden hN
          have hQ := hidden hQ
          have hS := hidden hS
          refine wp_region_ext (by kernel_rfl) (by kernel_rfl) ?_
          repeat (go_big_quiet_step ((first | (go_at_call 78; first | exact Calls_ext (hN.out _) | exact Calls_ext2 (hN.out _)) | (go_at_call 79; first | exact Calls_ext (hQ.out _) | exact Calls_ext2 (hQ.out _)) | (go_at_call 80; first | exact Calls_ext (hS.out _) | exact Calls_ext2 (hS.out _)))))
          refine wpQuiet_nil ?_
          rintro _ ⟨x, rfl⟩
          go_wp2
          go_ret
          exact ⟨rfl, Gr.of (by repeat (first | exact hgr | refine Gr.ext ?_ _))⟩
    all_goals
      go_wp2
      go_round
      case rel => first | exact ⟨1, by omega, rfl⟩ | exact ⟨2, by omega, rfl⟩ | exact ⟨3, by omega, rfl⟩ | exact ⟨4, by omega, rfl⟩ | exact ⟨5, by omega, rfl⟩
      case measure => simp [intOf]

set_option maxHeartbeats 2000000 in
theorem classHolds64 (p : Int) (neg q : Bool) (s e f : Int) (hp : Pat64 p neg q s e f) (c : Int) (hc : ClsEF 2047 e f c) (w : World) (g : Glob w) :
    Calls Tryz.prog 14 #[.int .i64 64, .int .u64 p] w fun r w' => r = .returned (.bool true) ∧ ∃ x, w' = ext w x := by
  have HP := hp
  have HC := hc
  obtain ⟨p0, p1, s0, e0, e1, f0, f1, -, -, -, -, mg, qt, qn, -, -, -, -, -, -, -, -⟩ := hp
  have HM := cls64_of e0 e1 f0 f1 hc
  clear hc s0
  go_enter Tryz.func14, Tryz.ntmps14
  go_wp2_with (first | (go_at_call 15; refine (format64 _ (g.gr (by repeat (first | exact Gr.refl _ | refine Gr.alloc ?_ _ | refine Gr.ext ?_ _ | refine Gr.drew ?_ | refine Gr.setCell ?_ (by simp) _)))).mono ?_; rintro r w' ⟨rfl, x, rfl⟩) | (go_at_call 19; refine (of64 _).mono ?_; rintro r w' ⟨rfl, x, rfl⟩) | (go_at_call 72; refine (classify64 p _ c mg HM _).mono ?_; rintro r w' ⟨rfl, x, rfl⟩) | (go_at_call 73; refine (class64 p neg q s e f HP c HC _).mono ?_; rintro r w' ⟨rfl, x, rfl⟩))
  rename_i xa xb xc _ _
  refine wp_gen (fun w1 => w1.cell? ⟨w.heap.size + (cat xa xb 0).1.size, 0, none⟩ = some (.int .u64 64) ∧ w1.cell? ⟨w.heap.size + (cat xa xb 0).1.size, 1, none⟩ = some (.int .u64 11) ∧ w1.cell? ⟨w.heap.size + (cat xa xb 0).1.size, 2, none⟩ = some (.int .u64 52) ∧ w.heap.size + (cat xa xb 0).1.size < w1.heap.size ∧ Gr w.heap.size w w1)
    ⟨by simp [go_sem, ↓IntWalk.iteOmega], by simp [go_sem, ↓IntWalk.iteOmega], by simp [go_sem, ↓IntWalk.iteOmega], by simp [go_sem]; omega, (by repeat (first | exact Gr.refl _ | refine Gr.alloc ?_ _ | refine Gr.ext ?_ _ | refine Gr.drew ?_ | refine Gr.setCell ?_ (by simp) _))⟩ ?_
  rintro w1 ⟨k0, k1, k2, hlt, hgr⟩
  have hb5 : w.heap.size ≤ w.heap.size + (cat xa xb 0).1.size := by omega
  generalize w.heap.size + (cat xa xb 0).1.size = b5 at *
  clear xa xb xc x
  refine wp_region_float 16 17 [⟨16, 8, .cells #[.bool false, .bool false, .bool false, .bool false, .bool false] 120⟩] (by kernel_rfl) (by kernel_rfl) (by kernel_rfl) (by simp [go_sem]) ?_
  simp only [List.take_succ_cons, List.take_zero, List.drop_succ_cons, List.drop_zero]
  repeat (refine wpCalm_step (fun K hK => ?_); go_simp; first | (refine hK _ ?_; clear hK K) | (apply Exists.intro; refine ⟨fun _ => ?_, hK _ ?_⟩; (first | (go_at_call 74; exact Calls_ext3 (isZero64 p _ c mg HM _)) | (go_at_call 75; exact Calls_ext3 (isDenormal64 p _ c mg HM _)) | (go_at_call 76; exact Calls_ext3 (isNormal64 p _ c mg HM _)) | (go_at_call 77; exact Calls_ext3 (isInf64 p _ c mg HM _)) | (go_at_call 78; exact Calls_ext3 (isNaN64 p _ c mg HM _))); clear hK K))
  refine wpCalm_nil ?_
  intro bb W hM
  obtain ⟨m1, m2, m3⟩ := hM.one
  simp only [actOf_cons, actOf_nil, if_true] at m1 m2 ⊢
  generalize bb 16 = b8 at *
  clear hM
  have hlt8 := lt_of_cells m2
  have z0 := cell_of_cells m2 0
  have z1 := cell_of_cells m2 1
  have z2 := cell_of_cells m2 2
  have z3 := cell_of_cells m2 3
  have z4 := cell_of_cells m2 4
  have y0 := mark_of_cells m2
  have j0 : W.cell? ⟨b5, 0, none⟩ = some (.int .u64 64) := (m3.1.cell (p := ⟨b5, 0, none⟩) hlt).trans k0
  have j1 : W.cell? ⟨b5, 1, none⟩ = some (.int .u64 11) := (m3.1.cell (p := ⟨b5, 1, none⟩) hlt).trans k1
  have j2 : W.cell? ⟨b5, 2, none⟩ = some (.int .u64 52) := (m3.1.cell (p := ⟨b5, 2, none⟩) hlt).trans k2
  have hgrW : Gr w.heap.size w W := ⟨hgr.1.trans (m3.1.mono hgr.2), Nat.le_trans hgr.2 m3.2⟩
  have hb8 : w.heap.size ≤ b8 := Nat.le_trans hgr.2 m1
  have hne : b5 ≠ b8 := by omega
  clear m2 m3 k0 k1 k2 hgr
  simp only [Act.put]
  go_wp2
  refine wp_gen (fun W2 => W2.cell? ⟨b5, 0, none⟩ = some (.int .u64 64) ∧ W2.cell? ⟨b5, 1, none⟩ = some (.int .u64 11) ∧ W2.cell? ⟨b5, 2, none⟩ = some (.int .u64 52) ∧ b5 < W2.heap.size ∧ Gr w.heap.size w W2)
    ⟨by simp only [cell_far hne]; exact j0, by simp only [cell_far hne]; exact j1, by simp only [cell_far hne]; exact j2, by simp only [size_setCell]; omega, (by repeat (first | exact hgrW | refine Gr.setCell ?_ hb8 _))⟩ ?_
  clear hgrW j0 j1 j2 z0 z1 z2 z3 z4 y0 hlt8 m1 hne hb8 hlt W
  rintro W ⟨j0, j1, j2, hlt, hgr⟩
  have i0 : ∀ w, (Instr.index 120 (.agg #[.bool (decide (c = 0)), .bool (decide (c = 1)), .bool (decide (c = 2)), .bool (decide (c = 3)), .bool (decide (c = 4))]) (.int .i64 0)).run Tryz.prog w = .ok (.bool (decide (c = 0))) w := fun _ => by kernel_rfl
  have i1 : ∀ w, (Instr.index 120 (.agg #[.bool (decide (c = 0)), .bool (decide (c = 1)), .bool (decide (c = 2)), .bool (decide (c = 3)), .bool (decide (c = 4))]) (.int .i64 1)).run Tryz.prog w = .ok (.bool (decide (c = 1))) w := fun _ => by kernel_rfl
  have i2 : ∀ w, (Instr.index 120 (.agg #[.bool (decide (c = 0)), .bool (decide (c = 1)), .bool (decide (c = 2)), .bool (decide (c = 3)), .bool (decide (c = 4))]) (.int .i64 2)).run Tryz.prog w = .ok (.bool (decide (c = 2))) w := fun _ => by kernel_rfl
  have i3 : ∀ w, (Instr.index 120 (.agg #[.bool (decide (c = 0)), .bool (decide (c = 1)), .bool (decide (c = 2)), .bool (decide (c = 3)), .bool (decide (c = 4))]) (.int .i64 3)).run Tryz.prog w = .ok (.bool (decide (c = 3))) w := fun _ => by kernel_rfl
  have i4 : ∀ w, (Instr.index 120 (.agg #[.bool (decide (c = 0)), .bool (decide (c = 1)), .bool (decide (c = 2)), .bool (decide (c = 3)), .bool (decide (c = 4))]) (.int .i64 4)).run Tryz.prog w = .ok (.bool (decide (c = 4))) w := fun _ => by kernel_rfl
  have d0 := cls_test 0 c
  have d1 := cls_test 1 c
  have d2 := cls_test 2 c
  have d3 := cls_test 3 c
  have d4 := cls_test 4 c
  go_loop [40] (fun i => ∃ k : Nat, k ≤ 5 ∧ i = .int .i64 k) (fun i => 5 - (intOf i).toNat)
  case atStart => exact ⟨0, by omega, rfl⟩
  case round =>
    obtain ⟨k, hk, rfl⟩ := hrel
    rcases (show k = 0 ∨ k = 1 ∨ k = 2 ∨ k = 3 ∨ k = 4 ∨ k = 5 by omega) with rfl | rfl | rfl | rfl | rfl | rfl
    case inr.inr.inr.inr.inr =>
      go_wp2_with (go_at_call 30; refine (isFinite64 p _ c mg HM _).mono ?_; rintro r w' ⟨rfl, x, rfl⟩)
      by_cases h4 : c = 4
      · have h4' : decide (c = 4) = true := by simpa using h4
        clear h4 HC HP d0 d1 d2 d3 d4 i0 i1 i2 i3 i4
        have hN := fun w => isNaN64 p _ c mg HM w
        have hQ := fun w => isQuiet64 p _ c q mg HM qn w
        have hS := fun w => isSignalling64 p _ c q mg HM qt w
        simp only [h4', Bool.true_and, Bool.false_and] at hN hQ hS
        clear h4' qn qt
        cases q
        all_goals
          try simp only [Bool.not_true, Bool.not_false] at hS
          have hN := hidden hN
          have hQ := hidden hQ
          have hS := hidden hS
          refine wp_region_ext (by kernel_rfl) (by kernel_rfl) ?_
          repeat (go_big_quiet_step ((first | (go_at_call 78; first | exact Calls_ext (hN.out _) | exact Calls_ext2 (hN.out _)) | (go_at_call 79; first | exact Calls_ext (hQ.out _) | exact Calls_ext2 (hQ.out _)) | (go_at_call 80; first | exact Calls_ext (hS.out _) | exact Calls_ext2 (hS.out _)))))
          refine wpQuiet_nil ?_
          rintro _ ⟨x, rfl⟩
          go_wp2
          go_ret
          exact ⟨rfl, Gr.of (by repeat (first | exact hgr | refine Gr.ext ?_ _))⟩
      · have h4' : decide (c = 4) = false := by simpa using h4
        clear h4 HC HP d0 d1 d2 d3 d4 i0 i1 i2 i3 i4
        have hN := fun w => isNaN64 p _ c mg HM w
        have hQ := fun w => isQuiet64 p _ c q mg HM qn w
        have hS := fun w => isSignalling64 p _ c q mg HM qt w
        simp only [h4', Bool.true_and, Bool.false_and] at hN hQ hS
        clear h4' qn qt
        cases q
        all_goals
          try simp only [Bool.not_true, Bool.not_false] at hS
          have hN := hidden hN
          have hQ := hidden hQ
          have hS := hidden hS
          refine wp_region_ext (by kernel_rfl) (by kernel_rfl) ?_
          repeat (go_big_quiet_step ((first | (go_at_call 78; first | exact Calls_ext (hN.out _) | exact Calls_ext2 (hN.out _)) | (go_at_call 79; first | exact Calls_ext (hQ.out _) | exact Calls_ext2 (hQ.out _)) | (go_at_call 80; first | exact Calls_ext (hS.out _) | exact Calls_ext2 (hS.out _)))))
          refine wpQuiet_nil ?_
          rintro _ ⟨x, rfl⟩
          go_wp2
          go_ret
          exact ⟨rfl, Gr.of (by repeat (first | exact hgr | refine Gr.ext ?_ _))⟩
    all_goals
      go_wp2
      go_round
      case rel => first | exact ⟨1, by omega, rfl⟩ | exact ⟨2, by omega, rfl⟩ | exact ⟨3, by omega, rfl⟩ | exact ⟨4, by omega, rfl⟩ | exact ⟨5, by omega, rfl⟩
      case measure => simp [intOf]

end Go.Proofs.Qxb6500680aGreatDoor
