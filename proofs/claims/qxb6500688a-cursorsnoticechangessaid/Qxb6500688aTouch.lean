import Derived.Test.Qxb6500688aAtp
namespace Go.Proofs.Qxb6500688a
open Go.RowKit Go.BigFrame
set_option linter.unusedSimpArgs false
attribute [local go_sem] ext_cell_if ext_frozen_if alloc_cell_if alloc_frozen_if ext_size ext_ext
set_option maxHeartbeats 1000000 in
theorem touch_any (a b c d a' b' c' d' : Int) (w : World) : Calls Try.prog 39 #[.agg #[.int .i64 a, .int .i64 b, .int .i64 c, .int .i64 d], .agg #[.int .i64 a', .int .i64 b', .int .i64 c', .int .i64 d']] w fun e w' => RetB e ∧ ∃ x, w' = ext w x := by
  have AE := hidden (aEnd_any a b c d)
  have BE := hidden (bEnd_any a b c d)
  obtain ⟨S, hS⟩ : ∃ S, wrap64 (a + b) = S := ⟨_, rfl⟩
  obtain ⟨U, hU⟩ : ∃ U, wrap64 (c + d) = U := ⟨_, rfl⟩
  rw [hS] at AE
  rw [hU] at BE
  clear hS hU
  go_enter Try.func39, Try.ntmps39
  by_cases h : S = a'
  · subst h
    go_upto_region 1 with (fail)
    refine wp_region_ext (by kernel_rfl) (by kernel_rfl) ?_
    repeat (go_big_quiet_step ((first | (go_at_call 27; first | exact Calls_ext (AE.out _) | exact Calls_ext2 (AE.out _)) | (go_at_call 28; first | exact Calls_ext (BE.out _) | exact Calls_ext2 (BE.out _)))))
    rintro w2 ⟨x, rfl⟩
    go_wp2
    go_ret
    exact ⟨⟨_, rfl⟩, (((Gr.refl w).alloc _).alloc _).ext x |>.of⟩
  · have hb : (S == a') = false := by simp [h]
    go_upto_region 1 with (fail)
    refine wp_region_ext (by kernel_rfl) (by kernel_rfl) ?_
    repeat (go_big_quiet_step ((first | (go_at_call 27; first | exact Calls_ext (AE.out _) | exact Calls_ext2 (AE.out _)) | (go_at_call 28; first | exact Calls_ext (BE.out _) | exact Calls_ext2 (BE.out _)))))
    rintro w2 ⟨x, rfl⟩
    go_wp2
    go_ret
    exact ⟨⟨_, rfl⟩, (((Gr.refl w).alloc _).alloc _).ext x |>.of⟩
end Go.Proofs.Qxb6500688a
