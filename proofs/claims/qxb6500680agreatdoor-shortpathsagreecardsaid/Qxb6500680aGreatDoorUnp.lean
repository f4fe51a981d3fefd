import Derived.Test.Qxb6500680aGreatDoorAlign
import Derived.Test.Qxb6500680aGreatDoorLeaf
import Derived.Test.Qxb6500680aGreatDoorTail
import Derived.Test.Qxb6500680aGreatDoorBits
namespace Go.Proofs.Qxb6500680aGreatDoor
open Go.RowKit Go.BigFrame
set_option linter.unusedSimpArgs false
attribute [local go_sem] ext_cell_if ext_frozen_if alloc_cell_if alloc_frozen_if ext_size ext_ext
theorem bias32 (w : World) : Calls Tryz.prog 145 #[(.agg #[.int .u64 32, .int .u64 8, .int .u64 23])] w fun e w' => e = .returned (.int .i64 127) ∧ ∃ x, w' = ext w x := by
  go_enter Tryz.func145, Tryz.ntmps145
  go_wp2
  go_ret
  exact ⟨rfl, ((Gr.refl w).alloc _).of⟩
theorem post_gen {P : Program} {f : Func} {R : Ending → World → Prop} {e : Exit} {a : Act} {w : World} (S : World → Prop) (hS : S w) (h : ∀ w1, S w1 → bodyPost P f R e a w1) : bodyPost P f R e a w := h w hS
set_option maxRecDepth 100000 in
set_option maxHeartbeats 1000000 in
theorem unpack32 (p : Nat) (hp : p ≤ 18446744073709551615) : ∃ (b : Bool) (x : Int) (s : Nat), (-9223372036854775808 ≤ x ∧ x ≤ 9223372036854775807) ∧ s ≤ 18446744073709551615 ∧ (p % 2147483648 ≠ 0 → s ≠ 0) ∧ ∀ w : World, Calls Tryz.prog 92 #[(.agg #[.int .u64 32, .int .u64 8, .int .u64 23]), .int .u64 p] w fun e w' => e = .returned (.agg #[.bool b, .int .i64 x, .int .u64 s]) ∧ ∃ x, w' = ext w x := by
  have eE : wrap64 (bits .and .u64 ((p : Int) / 8388608) 255) = ((p / 8388608 % 256 : Nat) : Int) := by
    have h := and_low 8 (by decide) (p / 8388608) (by omega)
    rw [show ((p : Int) / 8388608) = ((p / 8388608 : Nat) : Int) by simp, show (255 : Int) = ((2 ^ 8 - 1 : Nat) : Int) by decide, h, show (2 : Nat) ^ 8 = 256 by decide]
    unfold wrap64
    omega
  have eS : bits .and .u64 (p : Int) 8388607 = ((p % 8388608 : Nat) : Int) := by
    have h := and_low 23 (by decide) p (by omega)
    rw [show (8388607 : Int) = ((2 ^ 23 - 1 : Nat) : Int) by decide, h, show (2 : Nat) ^ 23 = 8388608 by decide]
  obtain ⟨B, hB⟩ : ∃ B, p / 8388608 % 256 = B := ⟨_, rfl⟩
  obtain ⟨S, hS⟩ : ∃ S, p % 8388608 = S := ⟨_, rfl⟩
  rw [hB] at eE
  rw [hS] at eS
  have hbs : p % 2147483648 = B * 8388608 + S := by omega
  have eO : bits .or .u64 (S : Int) 8388608 = ((8388608 + S : Nat) : Int) := by
    have h := or_top 23 S (by omega) (by omega)
    rw [show (8388608 : Int) = ((2 ^ 23 : Nat) : Int) by decide, h, show (2 : Nat) ^ 23 = 8388608 by decide]
  have hBb : B ≤ 255 := by omega
  have hSb : S ≤ 8388607 := by omega
  clear hB hS
  by_cases hz : B = 0
  · subst hz
    refine ⟨(bits .and .u64 (p : Int) 2147483648 != 0), -149, S, by omega, by omega, by omega, fun w => ?_⟩
    clear hbs
    obtain ⟨C, hC⟩ : ∃ C, w.heap.size = C := ⟨_, rfl⟩
    go_enter Tryz.func92, Tryz.ntmps92
    go_upto_region 1 with (fail)
    refine wp_region_ext (by kernel_rfl) (by kernel_rfl) ?_
    repeat (go_big_quiet_step ((go_at_call 183; first | exact Calls_ext (maxBiased32 _) | exact Calls_ext2 (maxBiased32 _))))
    rintro w1 ⟨x1, rfl⟩
    simp only [eE]
    clear eE
    go_upto_if 20 with (go_at_call 156; refine (fracMask32 _).mono ?_; rintro _ _ ⟨rfl, x2, rfl⟩)
    try simp only [eS]
    go_upto_region 6 with (fail)
    refine wp_region_ext_tail 15 (by kernel_rfl) (by kernel_rfl) (by kernel_rfl) ?_
    simp only [List.take_succ_cons, List.take_zero, List.drop_succ_cons, List.drop_zero]
    repeat (go_big_quiet_step ((first | (go_at_call 89; first | exact Calls_ext (signMask32 _) | exact Calls_ext2 (signMask32 _)) | (go_at_call 145; first | exact Calls_ext (bias32 _) | exact Calls_ext2 (bias32 _)))))
    refine wpQuiet_nil ?_
    rintro w4 ⟨x4, rfl⟩
    go_wp2_with (fail)
    refine post_gen (fun W => Gr C w W ∧ W.heap[C + 1]? = some (.cells #[.bool (bits .and .u64 (p : Int) 2147483648 != 0), .int .i64 (-149), .int .u64 ((S : Nat) : Int)] 57)) ⟨?_, ?_⟩ ?_
    · rw [← hC]
      exact ((((((Gr.refl w).alloc _).alloc _).ext _).setCell (by simp) _).setCell (by simp) _).setCell (by simp) _
    · have h0 := heap_new (w.alloc (.cells #[.int .u64 32, .int .u64 8, .int .u64 23] 35)) (.cells #[.bool false, .int .i64 0, .int .u64 0] 57)
      rw [show (w.alloc (.cells #[.int .u64 32, .int .u64 8, .int .u64 23] 35)).heap.size = C + 1 by simp [hC]] at h0
      have K := fun x => blk_set (blk_set (blk_set (blk_ext (x := x) h0) 0 (.bool (bits .and .u64 (p : Int) 2147483648 != 0))) 1 (.int .i64 (-149))) 2 (.int .u64 ((S : Nat) : Int))
      refine (K _).trans ?_
      simp
    rintro Wf ⟨hGf, hF⟩
    have f0 := cell_of_cells hF 0
    have f1 := cell_of_cells hF 1
    have f2 := cell_of_cells hF 2
    simp at f0 f1 f2
    exact bodyPost_ret (v := .agg #[.bool (bits .and .u64 (p : Int) 2147483648 != 0), .int .i64 (-149), .int .u64 ((S : Nat) : Int)]) (by simp [results, Tryz.results92, go_sem, f0, f1, f2]) rfl ⟨rfl, by rw [← hC] at hGf; exact hGf.of⟩
  · have hzb : ((B : Int) == 0) = false := by simp [hz]
    refine ⟨(bits .and .u64 (p : Int) 2147483648 != 0), (B : Int) - 127 - 23, 8388608 + S, by omega, by omega, by omega, fun w => ?_⟩
    clear hbs
    obtain ⟨C, hC⟩ : ∃ C, w.heap.size = C := ⟨_, rfl⟩
    go_enter Tryz.func92, Tryz.ntmps92
    go_upto_region 1 with (fail)
    refine wp_region_ext (by kernel_rfl) (by kernel_rfl) ?_
    repeat (go_big_quiet_step ((go_at_call 183; first | exact Calls_ext (maxBiased32 _) | exact Calls_ext2 (maxBiased32 _))))
    rintro w1 ⟨x1, rfl⟩
    simp only [eE]
    clear eE
    go_upto_if 20 with (go_at_call 156; refine (fracMask32 _).mono ?_; rintro _ _ ⟨rfl, x2, rfl⟩)
    try simp only [eS]
    go_upto_region 6 with (go_at_call 158; refine (hiddenBit32 _).mono ?_; rintro _ _ ⟨rfl, x3, rfl⟩)
    try simp only [eO]
    refine wp_region_ext_tail 15 (by kernel_rfl) (by kernel_rfl) (by kernel_rfl) ?_
    simp only [List.take_succ_cons, List.take_zero, List.drop_succ_cons, List.drop_zero]
    repeat (go_big_quiet_step ((first | (go_at_call 89; first | exact Calls_ext (signMask32 _) | exact Calls_ext2 (signMask32 _)) | (go_at_call 145; first | exact Calls_ext (bias32 _) | exact Calls_ext2 (bias32 _)))))
    refine wpQuiet_nil ?_
    rintro w4 ⟨x4, rfl⟩
    go_wp2_with (fail)
    refine post_gen (fun W => Gr C w W ∧ W.heap[C + 1]? = some (.cells #[.bool (bits .and .u64 (p : Int) 2147483648 != 0), .int .i64 ((B : Int) - 127 - 23), .int .u64 ((8388608 + S : Nat) : Int)] 57)) ⟨?_, ?_⟩ ?_
    · rw [← hC]
      exact ((((((Gr.refl w).alloc _).alloc _).ext _).setCell (by simp) _).setCell (by simp) _).setCell (by simp) _
    · have h0 := heap_new (w.alloc (.cells #[.int .u64 32, .int .u64 8, .int .u64 23] 35)) (.cells #[.bool false, .int .i64 0, .int .u64 0] 57)
      rw [show (w.alloc (.cells #[.int .u64 32, .int .u64 8, .int .u64 23] 35)).heap.size = C + 1 by simp [hC]] at h0
      have K := fun x => blk_set (blk_set (blk_set (blk_ext (x := x) h0) 0 (.bool (bits .and .u64 (p : Int) 2147483648 != 0))) 1 (.int .i64 ((B : Int) - 127 - 23))) 2 (.int .u64 ((8388608 + S : Nat) : Int))
      refine (K _).trans ?_
      simp
    rintro Wf ⟨hGf, hF⟩
    have f0 := cell_of_cells hF 0
    have f1 := cell_of_cells hF 1
    have f2 := cell_of_cells hF 2
    simp at f0 f1 f2
    exact bodyPost_ret (v := .agg #[.bool (bits .and .u64 (p : Int) 2147483648 != 0), .int .i64 ((B : Int) - 127 - 23), .int .u64 ((8388608 + S : Nat) : Int)]) (by simp [results, Tryz.results92, go_sem, f0, f1, f2]) rfl ⟨rfl, by rw [← hC] at hGf; exact hGf.of⟩
theorem bias64 (w : World) : Calls Tryz.prog 145 #[(.agg #[.int .u64 64, .int .u64 11, .int .u64 52])] w fun e w' => e = .returned (.int .i64 1023) ∧ ∃ x, w' = ext w x := by
  go_enter Tryz.func145, Tryz.ntmps145
  go_wp2
  go_ret
  exact ⟨rfl, ((Gr.refl w).alloc _).of⟩
set_option maxRecDepth 100000 in
set_option maxHeartbeats 1000000 in
theorem unpack64 (p : Nat) (hp : p ≤ 18446744073709551615) : ∃ (b : Bool) (x : Int) (s : Nat), (-9223372036854775808 ≤ x ∧ x ≤ 9223372036854775807) ∧ s ≤ 18446744073709551615 ∧ (p % 9223372036854775808 ≠ 0 → s ≠ 0) ∧ ∀ w : World, Calls Tryz.prog 92 #[(.agg #[.int .u64 64, .int .u64 11, .int .u64 52]), .int .u64 p] w fun e w' => e = .returned (.agg #[.bool b, .int .i64 x, .int .u64 s]) ∧ ∃ x, w' = ext w x := by
  have eE : wrap64 (bits .and .u64 ((p : Int) / 4503599627370496) 2047) = ((p / 4503599627370496 % 2048 : Nat) : Int) := by
    have h := and_low 11 (by decide) (p / 4503599627370496) (by omega)
    rw [show ((p : Int) / 4503599627370496) = ((p / 4503599627370496 : Nat) : Int) by simp, show (2047 : Int) = ((2 ^ 11 - 1 : Nat) : Int) by decide, h, show (2 : Nat) ^ 11 = 2048 by decide]
    unfold wrap64
    omega
  have eS : bits .and .u64 (p : Int) 4503599627370495 = ((p % 4503599627370496 : Nat) : Int) := by
    have h := and_low 52 (by decide) p (by omega)
    rw [show (4503599627370495 : Int) = ((2 ^ 52 - 1 : Nat) : Int) by decide, h, show (2 : Nat) ^ 52 = 4503599627370496 by decide]
  obtain ⟨B, hB⟩ : ∃ B, p / 4503599627370496 % 2048 = B := ⟨_, rfl⟩
  obtain ⟨S, hS⟩ : ∃ S, p % 4503599627370496 = S := ⟨_, rfl⟩
  rw [hB] at eE
  rw [hS] at eS
  have hbs : p % 9223372036854775808 = B * 4503599627370496 + S := by omega
  have eO : bits .or .u64 (S : Int) 4503599627370496 = ((4503599627370496 + S : Nat) : Int) := by
    have h := or_top 52 S (by omega) (by omega)
    rw [show (4503599627370496 : Int) = ((2 ^ 52 : Nat) : Int) by decide, h, show (2 : Nat) ^ 52 = 4503599627370496 by decide]
  have hBb : B ≤ 2047 := by omega
  have hSb : S ≤ 4503599627370495 := by omega
  clear hB hS
  by_cases hz : B = 0
  · subst hz
    refine ⟨(bits .and .u64 (p : Int) 9223372036854775808 != 0), -1074, S, by omega, by omega, by omega, fun w => ?_⟩
    clear hbs
    obtain ⟨C, hC⟩ : ∃ C, w.heap.size = C := ⟨_, rfl⟩
    go_enter Tryz.func92, Tryz.ntmps92
    go_upto_region 1 with (fail)
    refine wp_region_ext (by kernel_rfl) (by kernel_rfl) ?_
    repeat (go_big_quiet_step ((go_at_call 183; first | exact Calls_ext (maxBiased64 _) | exact Calls_ext2 (maxBiased64 _))))
    rintro w1 ⟨x1, rfl⟩
    simp only [eE]
    clear eE
    go_upto_if 20 with (go_at_call 156; refine (fracMask64 _).mono ?_; rintro _ _ ⟨rfl, x2, rfl⟩)
    try simp only [eS]
    go_upto_region 6 with (fail)
    refine wp_region_ext_tail 15 (by kernel_rfl) (by kernel_rfl) (by kernel_rfl) ?_
    simp only [List.take_succ_cons, List.take_zero, List.drop_succ_cons, List.drop_zero]
    repeat (go_big_quiet_step ((first | (go_at_call 89; first | exact Calls_ext (signMask64 _) | exact Calls_ext2 (signMask64 _)) | (go_at_call 145; first | exact Calls_ext (bias64 _) | exact Calls_ext2 (bias64 _)))))
    refine wpQuiet_nil ?_
    rintro w4 ⟨x4, rfl⟩
    go_wp2_with (fail)
    refine post_gen (fun W => Gr C w W ∧ W.heap[C + 1]? = some (.cells #[.bool (bits .and .u64 (p : Int) 9223372036854775808 != 0), .int .i64 (-1074), .int .u64 ((S : Nat) : Int)] 57)) ⟨?_, ?_⟩ ?_
    · rw [← hC]
      exact ((((((Gr.refl w).alloc _).alloc _).ext _).setCell (by simp) _).setCell (by simp) _).setCell (by simp) _
    · have h0 := heap_new (w.alloc (.cells #[.int .u64 64, .int .u64 11, .int .u64 52] 35)) (.cells #[.bool false, .int .i64 0, .int .u64 0] 57)
      rw [show (w.alloc (.cells #[.int .u64 64, .int .u64 11, .int .u64 52] 35)).heap.size = C + 1 by simp [hC]] at h0
      have K := fun x => blk_set (blk_set (blk_set (blk_ext (x := x) h0) 0 (.bool (bits .and .u64 (p : Int) 9223372036854775808 != 0))) 1 (.int .i64 (-1074))) 2 (.int .u64 ((S : Nat) : Int))
      refine (K _).trans ?_
      simp
    rintro Wf ⟨hGf, hF⟩
    have f0 := cell_of_cells hF 0
    have f1 := cell_of_cells hF 1
    have f2 := cell_of_cells hF 2
    simp at f0 f1 f2
    exact bodyPost_ret (v := .agg #[.bool (bits .and .u64 (p : Int) 9223372036854775808 != 0), .int .i64 (-1074), .int .u64 ((S : Nat) : Int)]) (by simp [results, Tryz.results92, go_sem, f0, f1, f2]) rfl ⟨rfl, by rw [← hC] at hGf; exact hGf.of⟩
  · have hzb : ((B : Int) == 0) = false := by simp [hz]
    refine ⟨(bits .and .u64 (p : Int) 9223372036854775808 != 0), (B : Int) - 1023 - 52, 4503599627370496 + S, by omega, by omega, by omega, fun w => ?_⟩
    clear hbs
    obtain ⟨C, hC⟩ : ∃ C, w.heap.size = C := ⟨_, rfl⟩
    go_enter Tryz.func92, Tryz.ntmps92
    go_upto_region 1 with (fail)
    refine wp_region_ext (by kernel_rfl) (by kernel_rfl) ?_
    repeat (go_big_quiet_step ((go_at_call 183; first | exact Calls_ext (maxBiased64 _) | exact Calls_ext2 (maxBiased64 _))))
    rintro w1 ⟨x1, rfl⟩
    simp only [eE]
    clear eE
    go_upto_if 20 with (go_at_call 156; refine (fracMask64 _).mono ?_; rintro _ _ ⟨rfl, x2, rfl⟩)
    try simp only [eS]
    go_upto_region 6 with (go_at_call 158; refine (hiddenBit64 _).mono ?_; rintro _ _ ⟨rfl, x3, rfl⟩)
    try simp only [eO]
    refine wp_region_ext_tail 15 (by kernel_rfl) (by kernel_rfl) (by kernel_rfl) ?_
    simp only [List.take_succ_cons, List.take_zero, List.drop_succ_cons, List.drop_zero]
    repeat (go_big_quiet_step ((first | (go_at_call 89; first | exact Calls_ext (signMask64 _) | exact Calls_ext2 (signMask64 _)) | (go_at_call 145; first | exact Calls_ext (bias64 _) | exact Calls_ext2 (bias64 _)))))
    refine wpQuiet_nil ?_
    rintro w4 ⟨x4, rfl⟩
    go_wp2_with (fail)
    refine post_gen (fun W => Gr C w W ∧ W.heap[C + 1]? = some (.cells #[.bool (bits .and .u64 (p : Int) 9223372036854775808 != 0), .int .i64 ((B : Int) - 1023 - 52), .int .u64 ((4503599627370496 + S : Nat) : Int)] 57)) ⟨?_, ?_⟩ ?_
    · rw [← hC]
      exact ((((((Gr.refl w).alloc _).alloc _).ext _).setCell (by simp) _).setCell (by simp) _).setCell (by simp) _
    · have h0 := heap_new (w.alloc (.cells #[.int .u64 64, .int .u64 11, .int .u64 52] 35)) (.cells #[.bool false, .int .i64 0, .int .u64 0] 57)
      rw [show (w.alloc (.cells #[.int .u64 64, .int .u64 11, .int .u64 52] 35)).heap.size = C + 1 by simp [hC]] at h0
      have K := fun x => blk_set (blk_set (blk_set (blk_ext (x := x) h0) 0 (.bool (bits .and .u64 (p : Int) 9223372036854775808 != 0))) 1 (.int .i64 ((B : Int) - 1023 - 52))) 2 (.int .u64 ((4503599627370496 + S : Nat) : Int))
      refine (K _).trans ?_
      simp
    rintro Wf ⟨hGf, hF⟩
    have f0 := cell_of_cells hF 0
    have f1 := cell_of_cells hF 1
    have f2 := cell_of_cells hF 2
    simp at f0 f1 f2
    exact bodyPost_ret (v := .agg #[.bool (bits .and .u64 (p : Int) 9223372036854775808 != 0), .int .i64 ((B : Int) - 1023 - 52), .int .u64 ((4503599627370496 + S : Nat) : Int)]) (by simp [results, Tryz.results92, go_sem, f0, f1, f2]) rfl ⟨rfl, by rw [← hC] at hGf; exact hGf.of⟩
end Go.Proofs.Qxb6500680aGreatDoor
