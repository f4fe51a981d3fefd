import Derived.Test.Qxb6500688aRow
namespace Go.Proofs.Qxb6500688a
open Go.RowKit Go.BigFrame
set_option linter.unusedSimpArgs false
attribute [local go_sem] ext_cell_if ext_frozen_if alloc_cell_if alloc_frozen_if ext_size ext_ext
set_option maxRecDepth 100000 in
set_option maxHeartbeats 4000000 in
theorem rotateRight_any (xb yb : Nat) (yl yr xr : T) (xg yg : G) (w : World) (h : (T.node xb (.node yb yl yg yr) xg xr).Rep w) (hn : (T.node xb (.node yb yl yg yr) xg xr).blocks.Nodup) (hsz : yl.sz + yr.sz + xr.sz ≤ 60000) :
    Calls Try.prog 44 #[.pointer (some ⟨xb, 0, none⟩)] w fun e w' => e = .returned (T.node yb yl yg (.node xb yr xg xr)).ptr ∧ (T.node yb yl yg (.node xb yr xg xr)).Rep w' ∧ Tw [xb, yb] w w' := by
  simp only [T.blocks_node, List.nodup_append, List.nodup_cons, List.mem_append, List.mem_cons] at hn
  have k1 : xb ∉ yr.blocks := fun e => hn.2.2 xb (by simp [e]) xb (by simp) rfl
  have k2 : xb ∉ xr.blocks := hn.2.1.1
  have k3 : xb ∉ yl.blocks := fun e => hn.2.2 xb (by simp [e]) xb (by simp) rfl
  have k4 : xb ≠ yb := fun e => hn.2.2 xb (by simp [e]) xb (by simp) rfl
  have k5 : yb ∉ yl.blocks := fun e => hn.1.2.2 yb e yb (by simp) rfl
  have k6 : yb ∉ yr.blocks := hn.1.2.1.1
  have k7 : yb ∉ xr.blocks := fun e => hn.2.2 yb (by simp) yb (by simp [e]) rfl
  have HN := hidden hn
  have HR := hidden h
  obtain ⟨c0, c1⟩ := row_cells h.1
  obtain ⟨d0, d1⟩ := row_cells h.2.1.1
  simp only [T.ptr] at c0
  have HL1 : Hid (Calls Try.prog 42 #[yr.ptr, .pointer (some ⟨xb, 0, none⟩), xr.ptr] w.drew fun e w' => e = .returned (T.node xb yr xg xr).ptr ∧ (T.node xb yr xg xr).Rep w' ∧ Tw [xb] w.drew w') :=
    link_any yr xr xb xg w.drew h.2.1.2.2.drew h.2.2.drew (Raw.keep h.raw rfl) k1 k2 (by omega)
  have HL2 : Hid (∀ w1, Tw [xb] w.drew w1 → (T.node xb yr xg xr).Rep w1 → Calls Try.prog 42 #[yl.ptr, .pointer (some ⟨yb, 0, none⟩), (T.node xb yr xg xr).ptr] w1 fun e w' => e = .returned (T.node yb yl yg (T.node xb yr xg xr)).ptr ∧ (T.node yb yl yg (T.node xb yr xg xr)).Rep w' ∧ Tw [yb] w1 w') := fun w1 ht hx =>
    link_any yl _ yb yg w1 (h.2.1.2.1.drew.tw ht (fun k hk => by simp; rintro rfl; exact k3 hk)) hx (Raw.tw (w := w.drew) (Raw.keep h.2.1.raw rfl) ht (by simp; exact fun e => k4 e.symm)) k5 (by rw [T.blocks_node]; simp; exact ⟨k6, fun e => k4 e.symm, k7⟩) (by simp only [T.sz]; omega)
  clear h hn
  go_enter Try.func44, Try.ntmps44
  go_wp2_with (fail)
  go_region_with (go_at_call 42; first
    | ((with_reducible refine HL1.out.mono ?_); rintro _ w1 ⟨rfl, hr1, ht1⟩; have z1 := (ht1.2.1 yb (lt_of_cells HR.out.2.1.1) (by simp; exact fun e => k4 e.symm)).trans HR.out.2.1.1; obtain ⟨q0, q1⟩ := row_cells z1; clear z1)
    | ((with_reducible refine (HL2.out w1 ht1 hr1).mono ?_); rintro _ w2 ⟨rfl, hr2, ht2⟩))
  all_goals
    go_wp2
    go_ret
    refine ⟨rfl, hr2, (((Tw.refl w).drew.mono (by simp)).trans (ht1.mono (by simp))).trans (ht2.mono (by simp))⟩
end Go.Proofs.Qxb6500688a
