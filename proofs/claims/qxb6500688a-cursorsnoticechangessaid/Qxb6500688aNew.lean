import Derived.Test.Qxb6500688aNext
namespace Go.Proofs.Qxb6500688a
open Go.RowKit Go.BigFrame
set_option linter.unusedSimpArgs false
attribute [local go_sem] ext_cell_if ext_frozen_if alloc_cell_if alloc_frozen_if ext_size ext_ext
theorem new_any (w : World) : Calls Try.prog 5 #[] w fun e w' => e = .returned (.pointer (some ⟨w.heap.size, 0, none⟩)) ∧ Gr w.heap.size w w' ∧ Ix w' w.heap.size .nil 0 := by
  go_enter Try.func5, Try.ntmps5
  go_wp2
  go_ret
  exact ⟨rfl, (Gr.refl w).alloc _, heap_new _ _, trivial, by simp [T.blocks, T.seq], by simp [T.blocks, T.seq], by simp [T.sz], by omega⟩
theorem u64_bd (z : Int) : 0 ≤ IntKind.u64.wrap z ∧ IntKind.u64.wrap z ≤ 18446744073709551615 := by simp [IntKind.wrap, IntKind.bits, IntKind.signed]; omega
theorem u64_next (z : Int) : IntKind.u64.wrap (z + 1) ≠ z := by simp [IntKind.wrap, IntKind.bits, IntKind.signed]; omega
theorem reset_any (ib : Nat) (t : T) (ver : Int) (w : World) (hx : Ix w ib t ver) : Calls Try.prog 23 #[.pointer (some ⟨ib, 0, none⟩)] w fun e w' => e = .returned (.tuple #[]) ∧ Tw [ib] w w' ∧ Ix w' ib .nil (IntKind.u64.wrap (ver + 1)) := by
  have c0 := cell_of_cells hx.cell 0
  have c1 := cell_of_cells hx.cell 1
  have cm := mark_of_cells hx.cell
  simp at c0 c1
  have HX := hidden hx
  clear hx
  obtain ⟨v, hv⟩ : ∃ v, IntKind.u64.wrap (ver + 1) = v := ⟨_, rfl⟩
  rw [hv]
  go_enter Try.func23, Try.ntmps23
  go_wp2
  refine bodyPost_end (results_none rfl _ _ _) rfl ⟨rfl, (((Tw.refl w).mono (by simp)).set (by simp) _ _).set (by simp) _ _, ?_, trivial, by simp [T.blocks, T.seq], by simp [T.blocks, T.seq], by simp [T.sz], by rw [← hv]; exact u64_bd _⟩
  have := blk_set (blk_set HX.out.cell 0 (.pointer none)) 1 (.int .u64 v)
  simpa [T.ptr] using this
end Go.Proofs.Qxb6500688a
