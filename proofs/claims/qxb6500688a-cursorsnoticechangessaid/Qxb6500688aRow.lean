import Derived.Test.Qxb6500688aLink
namespace Go.Proofs.Qxb6500688a
open Go.RowKit Go.BigFrame
set_option linter.unusedSimpArgs false
attribute [local go_sem] ext_cell_if ext_frozen_if alloc_cell_if alloc_frozen_if ext_size ext_ext
theorem T.Rep.drew {w : World} {t : T} (h : t.Rep w) : t.Rep w.drew := h.keep fun _ _ => rfl
theorem row_cells {w : World} {b : Nat} {l r : T} {g : G} (h : w.heap[b]? = some (.cells (row l g r) 54)) : w.cell? ⟨b, 0, none⟩ = some l.ptr ∧ w.cell? ⟨b, 1, none⟩ = some r.ptr := ⟨cell_of_cells h 0, cell_of_cells h 1⟩
end Go.Proofs.Qxb6500688a
