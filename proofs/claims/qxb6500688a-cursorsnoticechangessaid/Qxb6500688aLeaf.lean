import Derived.Test.Qxb6500688aAt
namespace Go.Proofs.Qxb6500688a
open Go.RowKit Go.BigFrame
set_option linter.unusedSimpArgs false
attribute [local go_sem] ext_cell_if ext_frozen_if alloc_cell_if alloc_frozen_if ext_size ext_ext
theorem len_any (ib : Nat) (t : T) (ver : Int) (w : World) (hx : Ix w ib t ver) : Calls Try.prog 13 #[.pointer (some ⟨ib, 0, none⟩)] w fun e w' => e = .returned (.int .i64 (t.sz : Nat)) ∧ w' = w := by
  have c0 := cell_of_cells hx.cell 0
  simp at c0
  have C1 := hidden (count_any t w hx.rep)
  clear hx
  go_enter Try.func13, Try.ntmps13
  go_wp2_with (go_at_call 16; (with_reducible refine C1.out.mono ?_); rintro _ w ⟨rfl, rfl⟩)
  go_ret
  exact ⟨rfl, rfl⟩
theorem ends_any (ib : Nat) (t : T) (ver : Int) (w : World) (hx : Ix w ib t ver) : Calls Try.prog 33 #[.pointer (some ⟨ib, 0, none⟩)] w fun e w' => e = .returned (.tuple #[.int .i64 (wrap64 (totA t.seq)), .int .i64 (wrap64 (totB t.seq))]) ∧ ∃ x, w' = ext w x := by
  have c0 := cell_of_cells hx.cell 0
  simp at c0
  have C1 := hidden (spans_any t w hx.rep)
  clear hx
  generalize wrap64 (totA t.seq) = A at *
  generalize wrap64 (totB t.seq) = B at *
  go_enter Try.func33, Try.ntmps33
  go_wp2_with (go_at_call 31; (with_reducible refine C1.out.mono ?_); rintro _ _ ⟨rfl, x, rfl⟩)
  go_ret2
  exact ⟨rfl, x, rfl⟩
theorem aEnd_any (a b c d : Int) (w : World) : Calls Try.prog 27 #[.agg #[.int .i64 a, .int .i64 b, .int .i64 c, .int .i64 d]] w fun e w' => e = .returned (.int .i64 (wrap64 (a + b))) ∧ ∃ x, w' = ext w x := by
  go_enter Try.func27, Try.ntmps27
  go_wp2
  go_ret
  exact ⟨rfl, ((Gr.refl w).alloc _).of⟩
theorem bEnd_any (a b c d : Int) (w : World) : Calls Try.prog 28 #[.agg #[.int .i64 a, .int .i64 b, .int .i64 c, .int .i64 d]] w fun e w' => e = .returned (.int .i64 (wrap64 (c + d))) ∧ ∃ x, w' = ext w x := by
  go_enter Try.func28, Try.ntmps28
  go_wp2
  go_ret
  exact ⟨rfl, ((Gr.refl w).alloc _).of⟩
theorem right_any (b : Nat) (l r : T) (g : G) (w : World) (h : (T.node b l g r).Rep w) : (Calls Try.prog 25 #[.pointer (some ⟨b, 0, none⟩)] w fun e w' => e = .returned r.ptr ∧ w' = w) ∧ (Calls Try.prog 30 #[.pointer (some ⟨b, 0, none⟩)] w fun e w' => e = .returned r.ptr ∧ w' = w) := by
  obtain ⟨_, c1⟩ := row_cells h.1
  clear h
  constructor
  · go_enter Try.func25, Try.ntmps25
    go_wp2
    go_ret
    exact ⟨rfl, rfl⟩
  · go_enter Try.func30, Try.ntmps30
    go_wp2
    go_ret
    exact ⟨rfl, rfl⟩
theorem left_any (b : Nat) (l r : T) (g : G) (w : World) (h : (T.node b l g r).Rep w) : (Calls Try.prog 26 #[.pointer (some ⟨b, 0, none⟩)] w fun e w' => e = .returned l.ptr ∧ w' = w) ∧ (Calls Try.prog 29 #[.pointer (some ⟨b, 0, none⟩)] w fun e w' => e = .returned l.ptr ∧ w' = w) := by
  obtain ⟨c0, _⟩ := row_cells h.1
  clear h
  constructor
  · go_enter Try.func26, Try.ntmps26
    go_wp2
    go_ret
    exact ⟨rfl, rfl⟩
  · go_enter Try.func29, Try.ntmps29
    go_wp2
    go_ret
    exact ⟨rfl, rfl⟩
/-- A bool comes back. -/
def RetB (e : Ending) : Prop := ∃ v : Bool, e = .returned (.bool v)
set_option maxHeartbeats 1000000 in
theorem wellFormed_any (a b c d : Int) (w : World) : Calls Try.prog 32 #[.agg #[.int .i64 a, .int .i64 b, .int .i64 c, .int .i64 d]] w fun e w' => RetB e ∧ ∃ x, w' = ext w x := by
  have AE := hidden (aEnd_any a b c d)
  have BE := hidden (bEnd_any a b c d)
  go_enter Try.func32, Try.ntmps32
  by_cases h1 : a < 0
  · go_wp2
    go_ret
    exact ⟨⟨_, rfl⟩, ((Gr.refl w).alloc _).of⟩
  by_cases h2 : b < 0
  · go_wp2
    go_ret
    exact ⟨⟨_, rfl⟩, ((Gr.refl w).alloc _).of⟩
  by_cases h3 : c < 0
  · go_wp2
    go_ret
    exact ⟨⟨_, rfl⟩, ((Gr.refl w).alloc _).of⟩
  by_cases h4 : d < 0
  · go_wp2
    go_ret
    exact ⟨⟨_, rfl⟩, ((Gr.refl w).alloc _).of⟩
  by_cases h5 : 1073741824 < a
  · go_wp2
    go_ret
    exact ⟨⟨_, rfl⟩, ((Gr.refl w).alloc _).of⟩
  by_cases h6 : 1073741824 < b
  · go_wp2
    go_ret
    exact ⟨⟨_, rfl⟩, ((Gr.refl w).alloc _).of⟩
  by_cases h7 : 1073741824 < c
  · go_wp2
    go_ret
    exact ⟨⟨_, rfl⟩, ((Gr.refl w).alloc _).of⟩
  by_cases h8 : 1073741824 < d
  · go_wp2
    go_ret
    exact ⟨⟨_, rfl⟩, ((Gr.refl w).alloc _).of⟩
  by_cases h9 : 0 < b + d
  · go_wp2_with (first | (go_at_call 27; (with_reducible refine (AE.out _).mono ?_); rintro _ _ ⟨rfl, x, rfl⟩) | (go_at_call 28; (with_reducible refine (BE.out _).mono ?_); rintro _ _ ⟨rfl, y, rfl⟩))
    all_goals
      go_ret
      exact ⟨⟨_, rfl⟩, by first | exact ((((Gr.refl w).alloc _).ext _)).of | exact (((((Gr.refl w).alloc _).ext _)).ext _).of⟩
  · go_wp2
    go_ret
    exact ⟨⟨_, rfl⟩, ((Gr.refl w).alloc _).of⟩
end Go.Proofs.Qxb6500688a
