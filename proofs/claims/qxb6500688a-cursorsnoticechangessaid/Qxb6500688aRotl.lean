import Derived.Test.Qxb6500688aRow
namespace Go.Proofs.Qxb6500688a
open Go.RowKit Go.BigFrame
set_option linter.unusedSimpArgs false
attribute [local go_sem] ext_cell_if ext_frozen_if alloc_cell_if alloc_frozen_if ext_size ext_ext
set_option maxRecDepth 100000 in
set_option maxHeartbeats 4000000 in
theorem rotateLeft_any (xb yb : Nat) (xl yl yr : T) (xg yg : G) (w : World) (h : (T.node xb xl xg (.node yb yl yg yr)).Rep w) (hn : (T.node xb xl xg (.node yb yl yg yr)).blocks.Nodup) (hsz : xl.sz + yl.sz + yr.sz ≤ 60000) :
    Calls Try.prog 43 #[.pointer (some ⟨xb, 0, none⟩)] w fun e w' => e = .returned (T.node yb (.node xb xl xg yl) yg yr).ptr ∧ (T.node yb (.node xb xl xg yl) yg yr).Rep w' ∧ Tw [xb, yb] w w' := by
  simp only [T.blocks_node, List.nodup_append, List.nodup_cons, List.mem_append, List.mem_cons] at hn
  have k1 : xb ∉ xl.blocks := fun e => hn.2.2 xb e xb (by simp) rfl
  have k2 : xb ∉ yl.blocks := fun e => hn.2.1.1 (by simp [e])
  have k3 : xb ∉ yr.blocks := fun e => hn.2.1.1 (by simp [e])
  have k4 : xb ≠ yb := fun e => hn.2.1.1 (by simp [e])
  have k5 : yb ∉ xl.blocks := fun e => hn.2.2 yb e yb (by simp) rfl
  have k6 : yb ∉ yl.blocks := fun e => hn.2.1.2.2.2 yb e yb (by simp) rfl
  have k7 : yb ∉ yr.blocks := hn.2.1.2.2.1.1
  have HN := hidden hn
  have HR := hidden h
  have c1 := cell_of_cells h.1 1
  have c0 := cell_of_cells h.1 0
  have d0 := cell_of_cells h.2.2.1 0
  have d1 := cell_of_cells h.2.2.1 1
  simp only [row, T.ptr] at c1
  simp [row] at c0 c1 d0 d1
  have HL1 : Hid (Calls Try.prog 42 #[xl.ptr, .pointer (some ⟨xb, 0, none⟩), yl.ptr] w.drew fun e w' => e = .returned (T.node xb xl xg yl).ptr ∧ (T.node xb xl xg yl).Rep w' ∧ Tw [xb] w.drew w') :=
    link_any xl yl xb xg w.drew h.2.1.drew h.2.2.2.1.drew (Raw.keep h.raw rfl) k1 k2 (by omega)
  have HL2 : Hid (∀ w1, Tw [xb] w.drew w1 → (T.node xb xl xg yl).Rep w1 → Calls Try.prog 42 #[(T.node xb xl xg yl).ptr, .pointer (some ⟨yb, 0, none⟩), yr.ptr] w1 fun e w' => e = .returned (T.node yb (T.node xb xl xg yl) yg yr).ptr ∧ (T.node yb (T.node xb xl xg yl) yg yr).Rep w' ∧ Tw [yb] w1 w') := fun w1 ht hx =>
    link_any _ yr yb yg w1 hx (h.2.2.2.2.drew.tw ht (fun k hk => by simp; rintro rfl; exact k3 hk)) (Raw.tw (w := w.drew) (Raw.keep h.2.2.raw rfl) ht (by simp; exact fun e => k4 e.symm)) (by rw [T.blocks_node]; simp; exact ⟨k5, fun e => k4 e.symm, k6⟩) k7 (by simp only [T.sz]; omega)
  clear h hn
  go_enter Try.func43, Try.ntmps43
  go_wp2_with (fail)
  go_region_with (go_at_call 42; first
    | ((with_reducible refine HL1.out.mono ?_); rintro _ w1 ⟨rfl, hr1, ht1⟩; have z1 := (ht1.2.1 yb (lt_of_cells HR.out.2.2.1) (by simp; exact fun e => k4 e.symm)).trans HR.out.2.2.1; obtain ⟨q0, q1⟩ := row_cells z1; clear z1)
    | ((with_reducible refine (HL2.out w1 ht1 hr1).mono ?_); rintro _ w2 ⟨rfl, hr2, ht2⟩))
  all_goals
    go_wp2
    go_ret
    refine ⟨rfl, hr2, (((Tw.refl w).drew.mono (by simp)).trans (ht1.mono (by simp))).trans (ht2.mono (by simp))⟩
end Go.Proofs.Qxb6500688a
