import Derived.Test.Qxb6500688aPath
namespace Go.Proofs.Qxb6500688a
open Go.RowKit Go.BigFrame
set_option linter.unusedSimpArgs false
attribute [local go_sem] ext_cell_if ext_frozen_if alloc_cell_if alloc_frozen_if ext_size ext_ext
/-- What Valid answers. -/
def ValidOK (path : List T) (ver ver' : Int) (e : Ending) : Prop := (path = [] ∨ ver ≠ ver' → e = .returned (.bool false)) ∧ (path ≠ [] → ver = ver' → e = .returned (.bool true))
set_option maxHeartbeats 1000000 in
theorem valid_any (A cb ib : Nat) (t : T) (ver ver' : Int) (path : List T) (i a b c d : Int) (w : World) (hc : Cu A w cb ib ver path i a b c d) (hx : w.heap[ib]? = some (.cells #[t.ptr, .int .u64 ver'] 46)) :
    Calls Try.prog 9 #[.pointer (some ⟨cb, 0, none⟩)] w fun e w' => ValidOK path ver ver' e ∧ ∃ x, w' = ext w x := by
  obtain ⟨pa, pc, hv, _⟩ := hc
  have c0 := cell_of_cells hv 0
  have c1 := cell_of_cells hv 1
  have c2 := cell_of_cells hv 2
  have x1 := cell_of_cells hx 1
  have hcw := lt_of_cells hv
  have hiw := lt_of_cells hx
  simp at c0 c1 c2 x1
  clear hv hx
  go_enter Try.func9, Try.ntmps9
  cases path with
  | nil =>
    simp at c2
    go_wp2_with (fail)
    refine wp_region_ext (by kernel_rfl) (by kernel_rfl) ?_
    repeat (go_big_quiet_step (fail))
    rintro w2 ⟨x, rfl⟩
    go_wp2
    go_ret
    exact ⟨⟨fun _ => rfl, fun h => absurd rfl h⟩, (Gr.refl w).ext x |>.of⟩
  | cons u s =>
    obtain ⟨n, hn⟩ : ∃ n, (u :: s).length = n + 1 := ⟨s.length, by simp⟩
    rw [hn] at c2
    by_cases hvv : ver = ver'
    · subst hvv
      go_wp2_with (fail)
      refine wp_region_ext (by kernel_rfl) (by kernel_rfl) ?_
      repeat (go_big_quiet_step (fail))
      rintro w2 ⟨x, rfl⟩
      go_wp2
      go_ret
      exact ⟨⟨fun h => by rcases h with h | h <;> simp at h, fun _ _ => rfl⟩, (Gr.refl w).ext x |>.of⟩
    · have hbe : (ver == ver') = false := by simp [hvv]
      go_wp2_with (fail)
      refine wp_region_ext (by kernel_rfl) (by kernel_rfl) ?_
      repeat (go_big_quiet_step (fail))
      rintro w2 ⟨x, rfl⟩
      go_wp2
      go_ret
      exact ⟨⟨fun _ => by first | rfl | (rw [← hbe]; rfl), fun _ h => absurd h hvv⟩, (Gr.refl w).ext x |>.of⟩
end Go.Proofs.Qxb6500688a
