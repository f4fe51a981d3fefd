import Derived.Test.Qxb6500688aLeaf
namespace Go.Proofs.Qxb6500688a
open Go.RowKit Go.BigFrame
set_option linter.unusedSimpArgs false
attribute [local go_sem] ext_cell_if ext_frozen_if alloc_cell_if alloc_frozen_if ext_size ext_ext
/-- A place and a code come back. -/
def RetPC (e : Ending) : Prop := ∃ (i A B : Int) (b : Bool) (c : Int), e = .returned (.tuple #[.agg #[.int .i64 i, .bool b, .int .i64 A, .int .i64 B], .int .u8 c])
/-- The result's variable. -/
def Pl (C : Nat) (w W : World) : Prop := Gr C w W ∧ ∃ (i A B : Int) (b : Bool), W.heap[C]? = some (.cells #[.int .i64 i, .bool b, .int .i64 A, .int .i64 B] 35)
theorem Pl.set {C : Nat} {w W : World} (h : Pl C w W) (i A B : Int) (b : Bool) : Pl C w ((((W.setCell ⟨C, 0, none⟩ (.int .i64 i)).setCell ⟨C, 1, none⟩ (.bool b)).setCell ⟨C, 2, none⟩ (.int .i64 A)).setCell ⟨C, 3, none⟩ (.int .i64 B)) := by
  obtain ⟨h1, i', A', B', b', h2⟩ := h
  refine ⟨(((h1.setCell (Nat.le_refl C) _).setCell (Nat.le_refl C) _).setCell (Nat.le_refl C) _).setCell (Nat.le_refl C) _, i, A, B, b, ?_⟩
  have := blk_set (blk_set (blk_set (blk_set h2 0 (.int .i64 i)) 1 (.bool b)) 2 (.int .i64 A)) 3 (.int .i64 B)
  simpa using this
theorem Pl.ext {C : Nat} {w W : World} (h : Pl C w W) (x : Nat → Array Obj × Nat) : Pl C w (Qxb6500688a.ext W x) := by
  obtain ⟨h1, i', A', B', b', h2⟩ := h
  exact ⟨h1.ext x, i', A', B', b', blk_ext h2⟩
set_option maxRecDepth 100000 in
set_option maxHeartbeats 1000000 in
theorem find_any (ib : Nat) (t : T) (ver sd line : Int) (w : World) (hx : Ix w ib t ver) (hsd : sd = 0 ∨ sd = 1) :
    Calls Try.prog 38 #[.pointer (some ⟨ib, 0, none⟩), .int .u8 sd, .int .i64 line] w fun e w' => RetPC e ∧ ∃ x, w' = ext w x := by
  have HX := hidden hx
  have c0 := cell_of_cells hx.cell 0
  have hiw := lt_of_cells hx.cell
  simp at c0
  obtain ⟨C, hC⟩ : ∃ C, w.heap.size = C := ⟨_, rfl⟩
  clear hx
  go_enter Try.func38, Try.ntmps38
  by_cases hl : line < 0
  · go_wp2
    refine post_gen (Pl C w) ⟨by rw [← hC]; exact (Gr.refl w).alloc _, 0, 0, 0, false, by rw [← hC]; exact heap_new _ _⟩ ?_
    rintro Wf ⟨hGf, i, A, B, b, hF⟩
    have f0 := cell_of_cells hF 0
    have f1 := cell_of_cells hF 1
    have f2 := cell_of_cells hF 2
    have f3 := cell_of_cells hF 3
    simp at f0 f1 f2 f3
    exact bodyPost_ret (v := .tuple #[.agg #[.int .i64 i, .bool b, .int .i64 A, .int .i64 B], .int .u8 1]) (by simp [results, Try.results38, go_sem, f0, f1, f2, f3]) rfl ⟨⟨_, _, _, _, _, rfl⟩, by rw [← hC] at hGf; exact hGf.of⟩
  · go_wp2
    go_loopw [8, 9, 10, 11] (fun s8 s9 s10 s11 wi => ∃ (u : T) (PA PB N : Int), s11 = u.ptr ∧ s8 = .int .i64 PA ∧ s9 = .int .i64 PB ∧ s10 = .int .i64 N ∧ u.Rep w ∧ Pl C w wi) (fun _ _ _ s11 _ => htOf w s11)
    case atStart => exact ⟨t, 0, 0, 0, rfl, rfl, rfl, rfl, HX.out.rep, by rw [← hC]; exact (Gr.refl w).alloc _, 0, 0, 0, false, by rw [← hC]; exact heap_new _ _⟩
    case round =>
      clear c0
      obtain ⟨u, PA, PB, N, rfl, rfl, rfl, rfl, hu, hpl⟩ := hrel
      have HP := hidden hpl
      have HU := hidden hu
      have hCw : C < wr.heap.size := by obtain ⟨_, _, _, _, _, e⟩ := hpl; exact lt_of_cells e
      obtain ⟨k0, k1, k2, k3, km⟩ : (∃ v0, wr.cell? ⟨C, 0, none⟩ = some v0) ∧ (∃ v0, wr.cell? ⟨C, 1, none⟩ = some v0) ∧ (∃ v0, wr.cell? ⟨C, 2, none⟩ = some v0) ∧ (∃ v0, wr.cell? ⟨C, 3, none⟩ = some v0) ∧ ∀ o, wr.frozen? ⟨C, o, none⟩ = false := by
        obtain ⟨_, _, _, _, _, e⟩ := hpl
        exact ⟨⟨_, cell_of_cells e 0⟩, ⟨_, cell_of_cells e 1⟩, ⟨_, cell_of_cells e 2⟩, ⟨_, cell_of_cells e 3⟩, mark_of_cells e⟩
      obtain ⟨v0, k0⟩ := k0
      obtain ⟨v1, k1⟩ := k1
      obtain ⟨v2, k2⟩ := k2
      obtain ⟨v3, k3⟩ := k3
      cases u with
      | nil =>
        show Code.wp _ _ _ ⟨#[_, _, _, _, _, _, _, _, _, _, _, .pointer none, _, _, _, _, _, _, _, _, _, _, _, _, _, _, _, _, _, _, _, _, _, _, _, _, _, _, _, _, _, _, _, _, _, _, _, _, _, _, _, _, _, _, _, _, _, _, _, _, _, _, _, _, _, _, _, _, _, _, _, _, _, _, _, _, _, _, _, _, _, _, _, _, _, _, _, _, _, _, _, _, _, _, _, _, _, _, _, _, _, _, _, _, _, _, _, _, _, _, _, _, _, _, _, _, _, _, _, _, _, _, _, _, _, _, _, _], _⟩ _
        go_wp2
        refine post_gen (Pl C w) (HP.out.set _ _ _ _) ?_
        rintro Wf ⟨hGf, i, A, B, b, hF⟩
        have f0 := cell_of_cells hF 0
        have f1 := cell_of_cells hF 1
        have f2 := cell_of_cells hF 2
        have f3 := cell_of_cells hF 3
        simp at f0 f1 f2 f3
        exact bodyPost_ret (v := .tuple #[.agg #[.int .i64 i, .bool b, .int .i64 A, .int .i64 B], .int .u8 0]) (by simp [results, Try.results38, go_sem, f0, f1, f2, f3]) rfl ⟨⟨_, _, _, _, _, rfl⟩, by rw [← hC] at hGf; exact hGf.of⟩
      | node b l g r =>
        have hur : (T.node b l g r).Rep wr := hu.keep fun k hk => hpl.1.1.block k (by have := hu.lt k hk; omega)
        obtain ⟨d0, d1⟩ := row_cells hur.1
        obtain ⟨d4, d5, d6, d7⟩ := num_cells hur.1
        have hbw := lt_of_cells hur.1
        have hbC : ¬ b = C := by have := hu.lt b (by simp [T.blocks_node]); omega
        have hCb : ¬ C = b := fun e => hbC e.symm
        have S1 := hidden (spans_any l wr hur.2.1)
        have CN : Hid (∀ x, Calls Try.prog 16 #[l.ptr] (ext wr x) fun e w' => e = .returned (.int .i64 (l.sz : Nat)) ∧ w' = ext wr x) := fun x => count_any l _ (hur.2.1.tw (Tw.of_ext wr x) (by simp))
        have hm1 : htOf w l.ptr = l.ht := htOf_rep hu.2.1
        have hm2 : htOf w r.ptr = r.ht := htOf_rep hu.2.2
        have hm0 : htOf w (T.node b l g r).ptr = 1 + max l.ht r.ht := htOf_rep hu
        generalize wrap64 (totA l.seq) = LA at *
        generalize wrap64 (totB l.seq) = LB at *
        clear hu hur hpl
        show Code.wp _ _ _ ⟨#[_, _, _, _, _, _, _, _, _, _, _, .pointer (some ⟨b, 0, none⟩), _, _, _, _, _, _, _, _, _, _, _, _, _, _, _, _, _, _, _, _, _, _, _, _, _, _, _, _, _, _, _, _, _, _, _, _, _, _, _, _, _, _, _, _, _, _, _, _, _, _, _, _, _, _, _, _, _, _, _, _, _, _, _, _, _, _, _, _, _, _, _, _, _, _, _, _, _, _, _, _, _, _, _, _, _, _, _, _, _, _, _, _, _, _, _, _, _, _, _, _, _, _, _, _, _, _, _, _, _, _, _, _, _, _, _, _], _⟩ _
        go_upto_region 8 with (go_at_call 31; (with_reducible refine S1.out.mono ?_); rintro _ _ ⟨rfl, x1, rfl⟩)
        obtain ⟨GA, hGA⟩ : ∃ Q, wrap64 (PA + LA) = Q := ⟨_, rfl⟩
        obtain ⟨GB, hGB⟩ : ∃ Q, wrap64 (PB + LB) = Q := ⟨_, rfl⟩
        simp only [hGA, hGB]
        clear hGA hGB
        refine wp_region_ext (by kernel_rfl) (by kernel_rfl) ?_
        repeat (go_big_quiet_step (fail))
        rintro w3 ⟨x3, rfl⟩
        rw [ext_ext]
        generalize cat x1 x3 = y
        obtain ⟨SA, hSA⟩ : ∃ Q, wrap64 (GA + g.ga) = Q := ⟨_, rfl⟩
        obtain ⟨SB, hSB⟩ : ∃ Q, wrap64 (GB + g.gb) = Q := ⟨_, rfl⟩
        simp only [hSA, hSB]
        clear hSA hSB
        go_upto_region 10 with (go_at_call 16; (with_reducible refine (CN.out _).mono ?_); rintro _ _ ⟨rfl, rfl⟩)
        obtain ⟨NN, hNN⟩ : ∃ Q, wrap64 (N + (l.sz : Nat)) = Q := ⟨_, rfl⟩
        simp only [hNN]
        clear hNN
        refine wp_region_ext (by kernel_rfl) (by kernel_rfl) ?_
        repeat (go_big_quiet_step (fail))
        rintro w4 ⟨x4, rfl⟩
        rw [ext_ext]
        generalize cat y x4 = y4
        obtain ⟨EA, hEA⟩ : ∃ Q, wrap64 (SA + g.la) = Q := ⟨_, rfl⟩
        simp only [hEA]
        clear hEA
        rcases hsd with rfl | rfl
        · go_upto_if 73 with (fail)
          by_cases q1 : line < GA
          · go_wp2_with (fail)
            exact ⟨⟨l, PA, PB, N, rfl, rfl, rfl, rfl, HU.out.2.1, HP.out.ext _⟩, by show htOf w l.ptr < htOf w (T.node b l g r).ptr; rw [hm1, hm0]; omega⟩
          by_cases q2 : line < SA
          · go_wp2_with (fail)
            refine post_gen (Pl C w) ((HP.out.ext _).set _ _ _ _) ?_
            rintro Wf ⟨hGf, i, A, B, b, hF⟩
            have f0 := cell_of_cells hF 0
            have f1 := cell_of_cells hF 1
            have f2 := cell_of_cells hF 2
            have f3 := cell_of_cells hF 3
            simp at f0 f1 f2 f3
            exact bodyPost_ret (v := .tuple #[.agg #[.int .i64 i, .bool b, .int .i64 A, .int .i64 B], .int .u8 0]) (by simp [results, Try.results38, go_sem, f0, f1, f2, f3]) rfl ⟨⟨_, _, _, _, _, rfl⟩, by rw [← hC] at hGf; exact hGf.of⟩
          by_cases q3 : line < EA
          · go_wp2_with (fail)
            refine post_gen (Pl C w) ((HP.out.ext _).set _ _ _ _) ?_
            rintro Wf ⟨hGf, i, A, B, b, hF⟩
            have f0 := cell_of_cells hF 0
            have f1 := cell_of_cells hF 1
            have f2 := cell_of_cells hF 2
            have f3 := cell_of_cells hF 3
            simp at f0 f1 f2 f3
            exact bodyPost_ret (v := .tuple #[.agg #[.int .i64 i, .bool b, .int .i64 A, .int .i64 B], .int .u8 0]) (by simp [results, Try.results38, go_sem, f0, f1, f2, f3]) rfl ⟨⟨_, _, _, _, _, rfl⟩, by rw [← hC] at hGf; exact hGf.of⟩
          · go_upto_region 13 with (fail)
            refine wp_region_ext (by kernel_rfl) (by kernel_rfl) ?_
            repeat (go_big_quiet_step (fail))
            rintro w5 ⟨x5, rfl⟩
            go_wp2_with (fail)
            exact ⟨⟨r, _, _, _, rfl, rfl, rfl, rfl, HU.out.2.2, HP.out.ext _⟩, by show htOf w r.ptr < htOf w (T.node b l g r).ptr; rw [hm2, hm0]; omega⟩
        · go_upto_region 12 with (fail)
          refine wp_region_ext (by kernel_rfl) (by kernel_rfl) ?_
          repeat (go_big_quiet_step (fail))
          rintro w4 ⟨x6, rfl⟩
          rw [ext_ext]
          generalize cat y4 x6 = y6
          obtain ⟨EB, hEB⟩ : ∃ Q, wrap64 (SB + g.lb) = Q := ⟨_, rfl⟩
          simp only [hEB]
          clear hEB
          by_cases q1 : line < GB
          · go_wp2_with (fail)
            exact ⟨⟨l, PA, PB, N, rfl, rfl, rfl, rfl, HU.out.2.1, HP.out.ext _⟩, by show htOf w l.ptr < htOf w (T.node b l g r).ptr; rw [hm1, hm0]; omega⟩
          by_cases q2 : line < SB
          · go_wp2_with (fail)
            refine post_gen (Pl C w) ((HP.out.ext _).set _ _ _ _) ?_
            rintro Wf ⟨hGf, i, A, B, b, hF⟩
            have f0 := cell_of_cells hF 0
            have f1 := cell_of_cells hF 1
            have f2 := cell_of_cells hF 2
            have f3 := cell_of_cells hF 3
            simp at f0 f1 f2 f3
            exact bodyPost_ret (v := .tuple #[.agg #[.int .i64 i, .bool b, .int .i64 A, .int .i64 B], .int .u8 0]) (by simp [results, Try.results38, go_sem, f0, f1, f2, f3]) rfl ⟨⟨_, _, _, _, _, rfl⟩, by rw [← hC] at hGf; exact hGf.of⟩
          by_cases q3 : line < EB
          · go_wp2_with (fail)
            refine post_gen (Pl C w) ((HP.out.ext _).set _ _ _ _) ?_
            rintro Wf ⟨hGf, i, A, B, b, hF⟩
            have f0 := cell_of_cells hF 0
            have f1 := cell_of_cells hF 1
            have f2 := cell_of_cells hF 2
            have f3 := cell_of_cells hF 3
            simp at f0 f1 f2 f3
            exact bodyPost_ret (v := .tuple #[.agg #[.int .i64 i, .bool b, .int .i64 A, .int .i64 B], .int .u8 0]) (by simp [results, Try.results38, go_sem, f0, f1, f2, f3]) rfl ⟨⟨_, _, _, _, _, rfl⟩, by rw [← hC] at hGf; exact hGf.of⟩
          · go_upto_region 13 with (fail)
            refine wp_region_ext (by kernel_rfl) (by kernel_rfl) ?_
            repeat (go_big_quiet_step (fail))
            rintro w5 ⟨x5, rfl⟩
            go_wp2_with (fail)
            exact ⟨⟨r, _, _, _, rfl, rfl, rfl, rfl, HU.out.2.2, HP.out.ext _⟩, by show htOf w r.ptr < htOf w (T.node b l g r).ptr; rw [hm2, hm0]; omega⟩
end Go.Proofs.Qxb6500688a
