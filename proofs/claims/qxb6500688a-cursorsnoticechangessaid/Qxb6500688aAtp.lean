import Derived.Test.Qxb6500688aAll
namespace Go.Proofs.Qxb6500688a
open Go.RowKit Go.BigFrame
set_option linter.unusedSimpArgs false
attribute [local go_sem] ext_cell_if ext_frozen_if alloc_cell_if alloc_frozen_if ext_size ext_ext
/-- A hunk and a code come back. -/
def RetHC (e : Ending) : Prop := ∃ (a b c d : Int) (k : Int), e = .returned (.tuple #[.agg #[.int .i64 a, .int .i64 b, .int .i64 c, .int .i64 d], .int .u8 k])
set_option maxRecDepth 100000 in
set_option maxHeartbeats 1000000 in
theorem atp_any (ib : Nat) (t : T) (ver i : Int) (w : World) (hx : Ix w ib t ver) : Calls Try.prog 22 #[.pointer (some ⟨ib, 0, none⟩), .int .i64 i] w fun e w' => RetHC e ∧ ∃ x, w' = ext w x := by
  have hiw := lt_of_cells hx.cell
  have LN := hidden (fun o => len_any ib t ver (w.alloc o) (hx.gr ((Gr.refl w).alloc o)))
  have HX := hidden hx
  obtain ⟨C, hC⟩ : ∃ C, w.heap.size = C := ⟨_, rfl⟩
  clear hx
  go_enter Try.func22, Try.ntmps22
  by_cases h0 : i < 0
  · go_wp2
    exact bodyPost_ret (v := .tuple #[.agg #[.int .i64 0, .int .i64 0, .int .i64 0, .int .i64 0], .int .u8 1]) (by simp [results, Try.results22, go_sem, ↓IntWalk.iteOmega]) rfl ⟨⟨_, _, _, _, _, rfl⟩, ((Gr.refl w).alloc _).of⟩
  by_cases h1 : (t.sz : Int) ≤ i
  · go_wp2_with (go_at_call 13; (with_reducible refine (LN.out _).mono ?_); rintro _ _ ⟨rfl, rfl⟩)
    exact bodyPost_ret (v := .tuple #[.agg #[.int .i64 0, .int .i64 0, .int .i64 0, .int .i64 0], .int .u8 1]) (by simp [results, Try.results22, go_sem, ↓IntWalk.iteOmega]) rfl ⟨⟨_, _, _, _, _, rfl⟩, ((Gr.refl w).alloc _).of⟩
  · obtain ⟨k, rfl⟩ : ∃ k : Nat, i = k := ⟨i.toNat, by omega⟩
    have hk : k < t.seq.length := by rw [T.sz_seq]; omega
    have AT := hidden (fun o => at_any ib t ver k t.seq[k] (w.alloc o) (HX.out.gr ((Gr.refl w).alloc o)) (List.getElem?_eq_getElem hk))
    generalize t.seq[k] = p at *
    simp only [hunkOf] at AT
    generalize wrap64 (totA (t.seq.take k) + p.2.ga) = XA at *
    generalize wrap64 (totB (t.seq.take k) + p.2.gb) = XB at *
    go_wp2_with (first | (go_at_call 13; (with_reducible refine (LN.out _).mono ?_); rintro _ _ ⟨rfl, rfl⟩) | (go_at_call 14; (with_reducible refine (AT.out _).mono ?_); rintro _ _ ⟨rfl, x1, rfl⟩))
    refine post_gen (fun W => Gr C w W ∧ W.heap[C]? = some (.cells #[.int .i64 XA, .int .i64 p.2.la, .int .i64 XB, .int .i64 p.2.lb] 41)) ⟨?_, ?_⟩ ?_
    · rw [← hC]
      exact (((((((Gr.refl w).alloc _).ext x1).setCell (Nat.le_refl _) _).setCell (Nat.le_refl _) _).setCell (Nat.le_refl _) _).setCell (Nat.le_refl _) _)
    · have h0 : (ext (w.alloc (Obj.cells #[.int .i64 0, .int .i64 0, .int .i64 0, .int .i64 0] 41)) x1).heap[C]? = _ := blk_ext (by rw [← hC]; exact heap_new _ _)
      have := blk_set (blk_set (blk_set (blk_set h0 0 (.int .i64 XA)) 1 (.int .i64 p.2.la)) 2 (.int .i64 XB)) 3 (.int .i64 p.2.lb)
      simpa using this
    rintro Wf ⟨hGf, hF⟩
    have f0 := cell_of_cells hF 0
    have f1 := cell_of_cells hF 1
    have f2 := cell_of_cells hF 2
    have f3 := cell_of_cells hF 3
    simp at f0 f1 f2 f3
    exact bodyPost_ret (v := .tuple #[.agg #[.int .i64 XA, .int .i64 p.2.la, .int .i64 XB, .int .i64 p.2.lb], .int .u8 0]) (by simp [results, Try.results22, go_sem, f0, f1, f2, f3]) rfl ⟨⟨_, _, _, _, _, rfl⟩, by rw [← hC] at hGf; exact hGf.of⟩
end Go.Proofs.Qxb6500688a
