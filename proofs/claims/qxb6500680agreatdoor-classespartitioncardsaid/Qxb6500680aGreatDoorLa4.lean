import Derived.Test.Qxb6500680aGreatDoorPats
namespace Go.Proofs.Qxb6500680aGreatDoor
open Go.RowKit Go.BigFrame
set_option linter.unusedSimpArgs false
attribute [local go_sem] ext_cell_if ext_frozen_if alloc_cell_if alloc_frozen_if ext_size ext_ext
set_option maxRecDepth 100000 in
set_option maxHeartbeats 8000000 in
theorem law4 (sv : Value) (n : Nat) (w : World) (hs : Scr w sv n) (hn : n ≤ 9223372036854775807) (hw : Gw w) (ht : Lib.TabIs Tryz.prog w "internal/strconv.uint64pow10" .u64 Lib.pow10Tab) : Calls Tryz.prog 4 #[sv] w fun e w' => e = .returned (.bool true) ∧ ∃ x, w' = ext w x := by
  have RS := hidden (fun (h : n ≤ 65536) => resolve_any play_any sv n w hs h hw ht)
  have HGL := hidden (fun (w1 : World) (g : Gr w.heap.size w w1) => (Gw.gr w w1 hw g).glob)
  obtain ⟨sa, sc, rfl, hs⟩ := hs
  have SM := hidden (small_any sa n sc w hn)
  clear hs hw ht
  go_enter Tryz.func4, Tryz.ntmps4
  by_cases h : n ≤ 65536
  · have RS := hidden (RS.out h)
    go_upto_region 3 with (go_at_call 10; (with_reducible refine SM.out.mono ?_); rintro _ w ⟨rfl, rfl⟩)
    clear SM
    go_wp2_with (go_at_call 11; (with_reducible refine RS.out.mono ?_); rintro _ w1 ⟨ob, c, rfl, hco, hall, hg⟩)
    have HCO := hidden hco
    have HALL := hidden hall
    have HG := hidden hg
    clear hco hall hg RS
    go_loopw [4, 6, 13] (fun _ _ s13 wi => ∃ i : Nat, s13 = .int .i64 i ∧ i ≤ n ∧ wi.heap[ob]? = some (.cells c 29) ∧ Gr w.heap.size w wi) (fun _ _ s13 _ => (n - intOf s13).toNat)
    case atStart => exact ⟨0, rfl, by omega, HCO.out, HG.out⟩
    case round =>
      obtain ⟨i, rfl, hi, hco, hgi⟩ := hrel
      clear HCO HG w1
      by_cases hin : i < n
      · obtain ⟨k, W, md, ch, A, B, N, e0, e1, e2, e3, e4, e5, e6, h1, h2, h3, h4, h5, h6⟩ := HALL.out i hin
        have o0 : wr.cell? ⟨ob, i * 7, none⟩ = some (.int .u8 k) := (cell_of_cells hco (i * 7)).trans e0
        have o1 : wr.cell? ⟨ob, i * 7 + 1, none⟩ = some (.int .i64 W) := (cell_of_cells hco (i * 7 + 1)).trans e1
        have o2 : wr.cell? ⟨ob, i * 7 + 2, none⟩ = some (.int .u8 md) := (cell_of_cells hco (i * 7 + 2)).trans e2
        have o3 : wr.cell? ⟨ob, i * 7 + 3, none⟩ = some (.bool ch) := (cell_of_cells hco (i * 7 + 3)).trans e3
        have o4 : wr.cell? ⟨ob, i * 7 + 4, none⟩ = some (.int .u64 A) := (cell_of_cells hco (i * 7 + 4)).trans e4
        have o5 : wr.cell? ⟨ob, i * 7 + 5, none⟩ = some (.int .u64 B) := (cell_of_cells hco (i * 7 + 5)).trans e5
        have o6 : wr.cell? ⟨ob, i * 7 + 6, none⟩ = some (.int .i64 N) := (cell_of_cells hco (i * 7 + 6)).trans e6
        have lo := lt_of_cells hco
        have HCO := hidden hco
        have HGI := hidden hgi
        have PT := hidden (fun (w1 : World) (g : Gr w.heap.size w w1) => patterns_any k W md ch A B N h2 h4 h5 w1 (HGL.out w1 g))
        clear e0 e1 e2 e3 e4 e5 e6 h1 h2 h3 h4 h5 h6 hco hgi
        obtain ⟨vb, hvb⟩ : ∃ vb, vb = wr.heap.size := ⟨_, rfl⟩
        go_upto_region 6 with (fail)
        refine wp_gen (fun w2 => w2.heap[ob]? = some (.cells c 29) ∧ w2.heap[vb]? = some (.cells #[.int .u8 k, .int .i64 W, .int .u8 md, .bool ch, .int .u64 A, .int .u64 B, .int .i64 N] 29) ∧ Gr w.heap.size w w2) ⟨blk_alloc HCO.out, by rw [hvb]; exact heap_new _ _, HGI.out.alloc _⟩ ?_
        simp only [← hvb]
        clear hvb o0 o1 o2 o3 o4 o5 o6 lo HCO HGI
        rintro w2 ⟨b1, b2, hg⟩
        have o0 : w2.cell? ⟨vb, 0, none⟩ = some (.int .u8 k) := cell_of_cells b2 0
        have o1 : w2.cell? ⟨vb, 1, none⟩ = some (.int .i64 W) := cell_of_cells b2 1
        have o2 : w2.cell? ⟨vb, 2, none⟩ = some (.int .u8 md) := cell_of_cells b2 2
        have o3 : w2.cell? ⟨vb, 3, none⟩ = some (.bool ch) := cell_of_cells b2 3
        have o4 : w2.cell? ⟨vb, 4, none⟩ = some (.int .u64 A) := cell_of_cells b2 4
        have o5 : w2.cell? ⟨vb, 5, none⟩ = some (.int .u64 B) := cell_of_cells b2 5
        have o6 : w2.cell? ⟨vb, 6, none⟩ = some (.int .i64 N) := cell_of_cells b2 6
        have lo := lt_of_cells b2
        have HG2 := hidden hg
        have B1 := hidden b1
        have B2 := hidden b2
        have PT := hidden (PT.out w2 hg)
        clear b1 b2 hg
        go_wp2_with (go_at_call 12; (with_reducible refine PT.out.mono ?_); rintro _ _ ⟨p, q, rfl, hp, hq, x1, rfl⟩)
        have HP := hidden (fun (w1 : World) (g : Gr w.heap.size w w1) => cl_any W p hp w1 (HGL.out w1 g))
        have HQ := hidden (fun (w1 : World) (g : Gr w.heap.size w w1) => cl_any W q hq w1 (HGL.out w1 g))
        have i0 : ∀ w, (Instr.index 30 (.agg #[.int .u64 p, .int .u64 q]) (.int .i64 0)).run Tryz.prog w = .ok (.int .u64 p) w := fun w => by kernel_rfl
        have i1 : ∀ w, (Instr.index 30 (.agg #[.int .u64 p, .int .u64 q]) (.int .i64 1)).run Tryz.prog w = .ok (.int .u64 q) w := fun w => by kernel_rfl
        clear hp hq PT o0 o1 o2 o3 o4 o5 o6 lo
        go_loopw [6, 19] (fun _ s19 wi => ∃ j : Nat, s19 = .int .i64 j ∧ j ≤ 2 ∧ wi.heap[ob]? = some (.cells c 29) ∧ wi.heap[vb]? = some (.cells #[.int .u8 k, .int .i64 W, .int .u8 md, .bool ch, .int .u64 A, .int .u64 B, .int .i64 N] 29) ∧ Gr w.heap.size w wi) (fun _ s19 _ => (2 - intOf s19).toNat)
        case atStart => exact ⟨0, rfl, by omega, blk_ext B1.out, blk_ext B2.out, HG2.out.ext _⟩
        case round =>
          obtain ⟨j, rfl, hj, d1, d2, hgj⟩ := hrel
          have o1 : wr.cell? ⟨vb, 1, none⟩ = some (.int .i64 W) := cell_of_cells d2 1
          have lo := lt_of_cells d2
          have D1 := hidden d1
          have D2 := hidden d2
          have HGJ := hidden hgj
          have HP := hidden (HP.out _ hgj)
          have HQ := hidden (HQ.out _ hgj)
          clear d1 d2 hgj
          rcases j with _ | _ | _ | j
          · go_wp2_with (go_at_call 14; (with_reducible refine HP.out.mono ?_); rintro _ _ ⟨rfl, x2, rfl⟩)
            exact ⟨⟨1, rfl, by omega, blk_ext D1.out, blk_ext D2.out, HGJ.out.ext _⟩, by simp [intOf]⟩
          · go_wp2_with (go_at_call 14; (with_reducible refine HQ.out.mono ?_); rintro _ _ ⟨rfl, x2, rfl⟩)
            exact ⟨⟨2, rfl, by omega, blk_ext D1.out, blk_ext D2.out, HGJ.out.ext _⟩, by simp [intOf]⟩
          · go_wp2_with (fail)
            exact ⟨⟨i + 1, rfl, by omega, D1.out, HGJ.out⟩, by simp [intOf]; omega⟩
          · omega
      · have HGI := hidden hgi
        clear hco hgi
        go_wp2_with (fail)
        go_ret
        exact ⟨rfl, Gr.of HGI.out⟩
  · go_wp2_with (go_at_call 10; (with_reducible refine SM.out.mono ?_); rintro _ w ⟨rfl, rfl⟩)
    go_ret
    exact ⟨rfl, Gr.of (Gr.refl _)⟩
end Go.Proofs.Qxb6500680aGreatDoor
