import Derived.Test.Qxb6500680aGreatDoorPb
namespace Go.Proofs.Qxb6500680aGreatDoor
open Go.RowKit Go.BigFrame
set_option linter.unusedSimpArgs false
attribute [local go_sem] ext_cell_if ext_frozen_if alloc_cell_if alloc_frozen_if ext_size ext_ext
set_option maxRecDepth 100000 in
set_option maxHeartbeats 8000000 in
theorem play12 {W E F : Int} (hF : Fm W E F) (md : Int) (ch : Bool) (A B N : Int) (hm : InR .u8 md) (hA : InR .u64 A) (hB : InR .u64 B) (hN : InR .i64 N) (w : World) (hw : Gw w) (ht : Lib.TabIs Tryz.prog w "internal/strconv.uint64pow10" .u64 Lib.pow10Tab) : Calls Tryz.prog 66 #[.agg #[.int .u8 12, .int .i64 W, .int .u8 md, .bool ch, .int .u64 A, .int .u64 B, .int .i64 N]] w (PlayOK w) := by
  have FMT := hidden (fun (w1 : World) (g : Gr w.heap.size w w1) => format_any hF w1 (Gw.gr w w1 hw g).glob)
  have HGW := hidden (fun (w1 : World) (g : Gr w.heap.size w w1) => Gw.gr w w1 hw g)
  have HTT := hidden (Lib.tabBelow_of_tabIs ht)
  clear hw ht
  go_enter Tryz.func66, Tryz.ntmps66
  go_upto_region 4 with (go_at_call 15; (with_reducible refine (FMT.out _ (by repeat (first | exact Gr.refl _ | refine Gr.alloc ?_ _ | refine Gr.ext ?_ _ | refine Gr.drew ?_))).mono ?_); rintro _ _ ⟨rfl, x1, rfl⟩)
  obtain ⟨ob, hob⟩ : ∃ ob, ob = w.heap.size := ⟨_, rfl⟩
  obtain ⟨rv, hrv⟩ : ∃ rv, rv = ob + 1 := ⟨_, rfl⟩
  obtain ⟨fb, hfb⟩ : ∃ fb, fb = rv + 1 + (x1 0).fst.size := ⟨_, rfl⟩
  obtain ⟨rb, hrb⟩ : ∃ rb, rb = fb + 1 := ⟨_, rfl⟩
  refine wp_gen (fun w1 => Pl ob rv fb rb #[.int .u8 12, .int .i64 W, .int .u8 md, .bool ch, .int .u64 A, .int .u64 B, .int .i64 N] #[.int .u64 W, .int .u64 E, .int .u64 F] #[.int .u64 0, .int .i64 0, .int .i64 0, .int .u8 0, .int .u8 0, .int .u8 0, .int .i8 0, .string ⟨#[]⟩, .bool false] #[.int .u64 0, .int .i64 0, .int .i64 0, .int .u8 0, .int .u8 0, .int .u8 0, .int .i8 0, .string ⟨#[]⟩, .bool false] w w1) ?_ ?_
  · have e1 : (w.alloc (.cells #[.int .u8 12, .int .i64 W, .int .u8 md, .bool ch, .int .u64 A, .int .u64 B, .int .i64 N] 29)).heap.size = w.heap.size + 1 := by simp
    have e3 : (ext ((w.alloc (.cells #[.int .u8 12, .int .i64 W, .int .u8 md, .bool ch, .int .u64 A, .int .u64 B, .int .i64 N] 29)).alloc (.cells #[.int .u64 0, .int .i64 0, .int .i64 0, .int .u8 0, .int .u8 0, .int .u8 0, .int .i8 0, .string ⟨#[]⟩, .bool false] 108)) x1).heap.size = w.heap.size + 1 + 1 + (x1 0).fst.size := by rw [ext_size]; simp
    have e4 : ((ext ((w.alloc (.cells #[.int .u8 12, .int .i64 W, .int .u8 md, .bool ch, .int .u64 A, .int .u64 B, .int .i64 N] 29)).alloc (.cells #[.int .u64 0, .int .i64 0, .int .i64 0, .int .u8 0, .int .u8 0, .int .u8 0, .int .i8 0, .string ⟨#[]⟩, .bool false] 108)) x1).alloc (.cells #[.int .u64 W, .int .u64 E, .int .u64 F] 35)).heap.size = w.heap.size + 1 + 1 + (x1 0).fst.size + 1 := by rw [← e3]; simp
    refine ⟨?_, ?_, ?_, ?_, (((((Gr.refl w).alloc _).alloc _).ext _).alloc _).alloc _, by omega, by omega, by omega, by omega, by omega⟩
    · rw [hob]
      exact blk_alloc (blk_alloc (blk_ext (blk_alloc (heap_new _ _))))
    · rw [hrv, hob, ← e1]
      exact blk_alloc (blk_alloc (blk_ext (heap_new _ _)))
    · rw [hfb, hrv, hob, ← e3]
      exact blk_alloc (heap_new _ _)
    · rw [hrb, hfb, hrv, hob, ← e4]
      exact heap_new _ _
  simp only [← hob, ← hrv, ← hfb, ← hrb]
  clear hob hrv hfb hrb FMT
  intro w1 t1
  have T1 := hidden t1
  have o0 : w1.cell? ⟨ob, 0, none⟩ = some (.int .u8 12) := cell_of_cells t1.o 0
  have o1 : w1.cell? ⟨ob, 1, none⟩ = some (.int .i64 W) := cell_of_cells t1.o 1
  have o2 : w1.cell? ⟨ob, 2, none⟩ = some (.int .u8 md) := cell_of_cells t1.o 2
  have o3 : w1.cell? ⟨ob, 3, none⟩ = some (.bool ch) := cell_of_cells t1.o 3
  have o4 : w1.cell? ⟨ob, 4, none⟩ = some (.int .u64 A) := cell_of_cells t1.o 4
  have o5 : w1.cell? ⟨ob, 5, none⟩ = some (.int .u64 B) := cell_of_cells t1.o 5
  have o6 : w1.cell? ⟨ob, 6, none⟩ = some (.int .i64 N) := cell_of_cells t1.o 6
  have f0 : w1.cell? ⟨fb, 0, none⟩ = some (.int .u64 W) := cell_of_cells t1.f 0
  have f1 : w1.cell? ⟨fb, 1, none⟩ = some (.int .u64 E) := cell_of_cells t1.f 1
  have f2 : w1.cell? ⟨fb, 2, none⟩ = some (.int .u64 F) := cell_of_cells t1.f 2
  have c0 : w1.cell? ⟨rb, 0, none⟩ = some (.int .u64 0) := cell_of_cells t1.r 0
  have c1 : w1.cell? ⟨rb, 1, none⟩ = some (.int .i64 0) := cell_of_cells t1.r 1
  have c2 : w1.cell? ⟨rb, 2, none⟩ = some (.int .i64 0) := cell_of_cells t1.r 2
  have c3 : w1.cell? ⟨rb, 3, none⟩ = some (.int .u8 0) := cell_of_cells t1.r 3
  have c4 : w1.cell? ⟨rb, 4, none⟩ = some (.int .u8 0) := cell_of_cells t1.r 4
  have c5 : w1.cell? ⟨rb, 5, none⟩ = some (.int .u8 0) := cell_of_cells t1.r 5
  have c6 : w1.cell? ⟨rb, 6, none⟩ = some (.int .i8 0) := cell_of_cells t1.r 6
  have c7 : w1.cell? ⟨rb, 7, none⟩ = some (.string ⟨#[]⟩) := cell_of_cells t1.r 7
  have c8 : w1.cell? ⟨rb, 8, none⟩ = some (.bool false) := cell_of_cells t1.r 8
  have mc0 := mark_of_cells t1.r 0
  have mc1 := mark_of_cells t1.r 1
  have mc2 := mark_of_cells t1.r 2
  have mc3 := mark_of_cells t1.r 3
  have mc4 := mark_of_cells t1.r 4
  have mc5 := mark_of_cells t1.r 5
  have mc6 := mark_of_cells t1.r 6
  have mc7 := mark_of_cells t1.r 7
  have mc8 := mark_of_cells t1.r 8
  have v0 : w1.cell? ⟨rv, 0, none⟩ = some (.int .u64 0) := cell_of_cells t1.v 0
  have v1 : w1.cell? ⟨rv, 1, none⟩ = some (.int .i64 0) := cell_of_cells t1.v 1
  have v2 : w1.cell? ⟨rv, 2, none⟩ = some (.int .i64 0) := cell_of_cells t1.v 2
  have v3 : w1.cell? ⟨rv, 3, none⟩ = some (.int .u8 0) := cell_of_cells t1.v 3
  have v4 : w1.cell? ⟨rv, 4, none⟩ = some (.int .u8 0) := cell_of_cells t1.v 4
  have v5 : w1.cell? ⟨rv, 5, none⟩ = some (.int .u8 0) := cell_of_cells t1.v 5
  have v6 : w1.cell? ⟨rv, 6, none⟩ = some (.int .i8 0) := cell_of_cells t1.v 6
  have v7 : w1.cell? ⟨rv, 7, none⟩ = some (.string ⟨#[]⟩) := cell_of_cells t1.v 7
  have v8 : w1.cell? ⟨rv, 8, none⟩ = some (.bool false) := cell_of_cells t1.v 8
  have mv0 := mark_of_cells t1.v 0
  have mv1 := mark_of_cells t1.v 1
  have mv2 := mark_of_cells t1.v 2
  have mv3 := mark_of_cells t1.v 3
  have mv4 := mark_of_cells t1.v 4
  have mv5 := mark_of_cells t1.v 5
  have mv6 := mark_of_cells t1.v 6
  have mv7 := mark_of_cells t1.v 7
  have mv8 := mark_of_cells t1.v 8
  have lo := lt_of_cells t1.o
  have lv := lt_of_cells t1.v
  have lf := lt_of_cells t1.f
  have lr := lt_of_cells t1.r
  have no := hidden t1.no
  have nvr : rv ≠ rb := t1.nv
  clear t1
  have GW := hidden (HGW.out w1 T1.out.gr)
  have CC := hidden (known2 (f := 179) (k1 := .u64) (k2 := .u8) (sa := [.agg fmtL, .cell (.int .u64), .cell (.int .i64), .cell (.int .u8)]) (by kernel_rfl) (by kernel_rfl) #[.agg #[.int .u64 W, .int .u64 E, .int .u64 F], .int .u64 A, .int .i64 N, .int .u8 md] ⟨hF.has, hasI hA, hasI hN, hasI hm, trivial⟩ w1 GW.out)
  have HH := hidden (And.intro hA (And.intro hB (And.intro hN hm)))
  clear HH hF hA hB hN hm
  go_upto_region 67 with (first | (go_at_call 179; (with_reducible refine CC.out.mono ?_); rintro _ _ ⟨p, fl, rfl, hp, hfl, x2, rfl⟩) | (go_at_call 178; (with_reducible refine (pat_any ob rb _ _ W _ _ _ _ _ _ _ _ _ _ _ _ _ _ _ _ (T1.out.ext _).o (T1.out.ext _).r).mono ?_); rintro _ w2 hp2; have t2 := (T1.out.ext _).pat hp2; obtain ⟨rfl, -, -⟩ := hp2))
  clear o0 o1 o2 o3 o4 o5 o6 f0 f1 f2 c0 c1 c2 c3 c4 c5 c6 c7 c8 mc0 mc1 mc2 mc3 mc4 mc5 mc6 mc7 mc8 v0 v1 v2 v3 v4 v5 v6 v7 v8 mv0 mv1 mv2 mv3 mv4 mv5 mv6 mv7 mv8 lo lv lf lr
  have T2 := hidden t2
  have o0 : w2.cell? ⟨ob, 0, none⟩ = some (.int .u8 12) := cell_of_cells t2.o 0
  have o1 : w2.cell? ⟨ob, 1, none⟩ = some (.int .i64 W) := cell_of_cells t2.o 1
  have o2 : w2.cell? ⟨ob, 2, none⟩ = some (.int .u8 md) := cell_of_cells t2.o 2
  have o3 : w2.cell? ⟨ob, 3, none⟩ = some (.bool ch) := cell_of_cells t2.o 3
  have o4 : w2.cell? ⟨ob, 4, none⟩ = some (.int .u64 A) := cell_of_cells t2.o 4
  have o5 : w2.cell? ⟨ob, 5, none⟩ = some (.int .u64 B) := cell_of_cells t2.o 5
  have o6 : w2.cell? ⟨ob, 6, none⟩ = some (.int .i64 N) := cell_of_cells t2.o 6
  have f0 : w2.cell? ⟨fb, 0, none⟩ = some (.int .u64 W) := cell_of_cells t2.f 0
  have f1 : w2.cell? ⟨fb, 1, none⟩ = some (.int .u64 E) := cell_of_cells t2.f 1
  have f2 : w2.cell? ⟨fb, 2, none⟩ = some (.int .u64 F) := cell_of_cells t2.f 2
  have c0 : w2.cell? ⟨rb, 0, none⟩ = some (.int .u64 p) := cell_of_cells t2.r 0
  have c1 : w2.cell? ⟨rb, 1, none⟩ = some (.int .i64 W) := cell_of_cells t2.r 1
  have c2 : w2.cell? ⟨rb, 2, none⟩ = some (.int .i64 0) := cell_of_cells t2.r 2
  have c3 : w2.cell? ⟨rb, 3, none⟩ = some (.int .u8 fl) := cell_of_cells t2.r 3
  have c4 : w2.cell? ⟨rb, 4, none⟩ = some (.int .u8 0) := cell_of_cells t2.r 4
  have c5 : w2.cell? ⟨rb, 5, none⟩ = some (.int .u8 0) := cell_of_cells t2.r 5
  have c6 : w2.cell? ⟨rb, 6, none⟩ = some (.int .i8 0) := cell_of_cells t2.r 6
  have c7 : w2.cell? ⟨rb, 7, none⟩ = some (.string ⟨#[]⟩) := cell_of_cells t2.r 7
  have c8 : w2.cell? ⟨rb, 8, none⟩ = some (.bool false) := cell_of_cells t2.r 8
  have mc0 := mark_of_cells t2.r 0
  have mc1 := mark_of_cells t2.r 1
  have mc2 := mark_of_cells t2.r 2
  have mc3 := mark_of_cells t2.r 3
  have mc4 := mark_of_cells t2.r 4
  have mc5 := mark_of_cells t2.r 5
  have mc6 := mark_of_cells t2.r 6
  have mc7 := mark_of_cells t2.r 7
  have mc8 := mark_of_cells t2.r 8
  have v0 : w2.cell? ⟨rv, 0, none⟩ = some (.int .u64 0) := cell_of_cells t2.v 0
  have v1 : w2.cell? ⟨rv, 1, none⟩ = some (.int .i64 0) := cell_of_cells t2.v 1
  have v2 : w2.cell? ⟨rv, 2, none⟩ = some (.int .i64 0) := cell_of_cells t2.v 2
  have v3 : w2.cell? ⟨rv, 3, none⟩ = some (.int .u8 0) := cell_of_cells t2.v 3
  have v4 : w2.cell? ⟨rv, 4, none⟩ = some (.int .u8 0) := cell_of_cells t2.v 4
  have v5 : w2.cell? ⟨rv, 5, none⟩ = some (.int .u8 0) := cell_of_cells t2.v 5
  have v6 : w2.cell? ⟨rv, 6, none⟩ = some (.int .i8 0) := cell_of_cells t2.v 6
  have v7 : w2.cell? ⟨rv, 7, none⟩ = some (.string ⟨#[]⟩) := cell_of_cells t2.v 7
  have v8 : w2.cell? ⟨rv, 8, none⟩ = some (.bool false) := cell_of_cells t2.v 8
  have mv0 := mark_of_cells t2.v 0
  have mv1 := mark_of_cells t2.v 1
  have mv2 := mark_of_cells t2.v 2
  have mv3 := mark_of_cells t2.v 3
  have mv4 := mark_of_cells t2.v 4
  have mv5 := mark_of_cells t2.v 5
  have mv6 := mark_of_cells t2.v 6
  have mv7 := mark_of_cells t2.v 7
  have mv8 := mark_of_cells t2.v 8
  have lo := lt_of_cells t2.o
  have lv := lt_of_cells t2.v
  have lf := lt_of_cells t2.f
  have lr := lt_of_cells t2.r
  have no := hidden t2.no
  have nvr : rv ≠ rb := t2.nv
  clear t2
  go_wp2_with (fail)
  exact bodyPost_ret (v := .agg #[.int .u64 p, .int .i64 W, .int .i64 0, .int .u8 fl, .int .u8 0, .int .u8 0, .int .i8 0, .string ⟨#[]⟩, .bool false]) (by simp [results, Tryz.results66, go_sem, ↓IntWalk.iteOmega, v0, v1, v2, v3, v4, v5, v6, v7, v8]) rfl (Pl.fin T2.out hp rfl)
end Go.Proofs.Qxb6500680aGreatDoor
