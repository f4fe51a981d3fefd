import Derived.Test.Qxb6500680aGreatDoorUx
import Derived.Test.Qxb6500680aGreatDoorUc
namespace Go.Proofs.Qxb6500680aGreatDoor
open Go.RowKit Go.BigFrame
set_option linter.unusedSimpArgs false
set_option linter.unusedSectionVars false
attribute [local go_sem] ext_cell_if ext_frozen_if alloc_cell_if alloc_frozen_if ext_size ext_ext calmOp calmAt
theorem nat_of {A : Int} (h : InR .u64 A) : ∃ a : Nat, A = (a : Int) ∧ U64 a := by
  have q : 0 ≤ A ∧ A ≤ 18446744073709551615 := h
  exact ⟨A.toNat, by omega, by unfold U64; omega⟩
set_option maxRecDepth 100000 in
set_option maxHeartbeats 10000000 in
theorem law8a (sh32 : ∀ (k W md : Int) (ch : Bool) (a b : Nat) (N : Int), U64 a → U64 b → -9223372036854775808 ≤ N → N ≤ 9223372036854775807 → ∀ w, Glob w → Tab w → Calls Tryz.prog 33 #[.agg #[.int .u8 k, .int .i64 W, .int .u8 md, .bool ch, .int .u64 a, .int .u64 b, .int .i64 N]] w (Rt (.bool true) w))
    (sh64 : ∀ (k W md : Int) (ch : Bool) (a b : Nat) (N : Int), U64 a → U64 b → -9223372036854775808 ≤ N → N ≤ 9223372036854775807 → ∀ w, Glob w → Tab w → Calls Tryz.prog 34 #[.agg #[.int .u8 k, .int .i64 W, .int .u8 md, .bool ch, .int .u64 a, .int .u64 b, .int .i64 N]] w (Rt (.bool true) w))
    (sv : Value) (n : Nat) (w : World) (hs : Scr w sv n) (hn : n ≤ 9223372036854775807) (hw : Gw w) (ht : Lib.TabIs Tryz.prog w "internal/strconv.uint64pow10" .u64 Lib.pow10Tab) (ty : TypeId) (ev : Value) (he : w.cell? ⟨0, 0, none⟩ = some (.iface ty ev)) : Calls Tryz.prog 8 #[sv] w fun e w' => e = .returned (.bool true) ∧ ∃ x, w' = ext w x := by
  have RS := hidden (fun (h : n ≤ 65536) => resolve_any play_any sv n w hs h hw ht)
  have HGL := hidden (fun (w1 : World) (g : Gr w.heap.size w w1) => (Gw.gr w w1 hw g).glob)
  have HTB := hidden (fun (w1 : World) (g : Gr w.heap.size w w1) => ((Lib.tabBelow_of_tabIs ht).on g.1).here)
  have h00 : 0 < w.heap.size := Nat.lt_of_le_of_lt (Nat.zero_le _) hw.glob.lt
  have HER := hidden (fun (w1 : World) (g : Gr w.heap.size w w1) => (And.intro ((g.1.cell (p := ⟨0, 0, none⟩) h00).trans he) (Nat.lt_of_lt_of_le h00 g.2) : w1.cell? ⟨0, 0, none⟩ = some (.iface ty ev) ∧ 0 < w1.heap.size))
  obtain ⟨sa, sc, rfl, hs⟩ := hs
  have SM := hidden (small_any sa n sc w hn)
  clear hs hw ht he h00
  go_enter Tryz.func8, Tryz.ntmps8
  by_cases h : n ≤ 65536
  · have RS := hidden (RS.out h)
    go_upto_region 3 with (go_at_call 10; (with_reducible refine SM.out.mono ?_); rintro _ w ⟨rfl, rfl⟩)
    clear SM
    go_wp2_with (go_at_call 11; (with_reducible refine RS.out.mono ?_); rintro _ w1 ⟨ob, c, rfl, hco, hall, hg⟩)
    have HCO := hidden hco
    have HALL := hidden hall
    have HG := hidden hg
    clear hco hall hg RS
    go_loopw [4, 5, 6, 7, 8, 9, 10, 11, 12, 13, 14, 15, 16, 23] (fun _ _ _ _ _ _ _ _ _ _ _ _ _ s23 wi => ∃ i : Nat, s23 = .int .i64 i ∧ i ≤ n ∧ wi.heap[ob]? = some (.cells c 29) ∧ Gr w.heap.size w wi) (fun _ _ _ _ _ _ _ _ _ _ _ _ _ s23 _ => (n - intOf s23).toNat)
    case atStart => exact ⟨0, rfl, by omega, HCO.out, HG.out⟩
    case round =>
      obtain ⟨i, rfl, hi, hco, hgi⟩ := hrel
      clear HCO HG w1
      by_cases hin : i < n
      · obtain ⟨k, W, md, ch, A, B, N, e0, e1, e2, e3, e4, e5, e6, h1, h2, h3, h4, h5, h6⟩ := HALL.out i hin
        obtain ⟨a, rfl, hau⟩ : ∃ a : Nat, A = (a : Int) ∧ U64 a := nat_of h4
        obtain ⟨b, rfl, hbu⟩ : ∃ a : Nat, B = (a : Int) ∧ U64 a := nat_of h5
        obtain ⟨hn0, hn1⟩ : -9223372036854775808 ≤ N ∧ N ≤ 9223372036854775807 := h6
        have o0 : wr.cell? ⟨ob, i * 7, none⟩ = some (.int .u8 k) := (cell_of_cells hco (i * 7)).trans e0
        have o1 : wr.cell? ⟨ob, i * 7 + 1, none⟩ = some (.int .i64 W) := (cell_of_cells hco (i * 7 + 1)).trans e1
        have o2 : wr.cell? ⟨ob, i * 7 + 2, none⟩ = some (.int .u8 md) := (cell_of_cells hco (i * 7 + 2)).trans e2
        have o3 : wr.cell? ⟨ob, i * 7 + 3, none⟩ = some (.bool ch) := (cell_of_cells hco (i * 7 + 3)).trans e3
        have o4 : wr.cell? ⟨ob, i * 7 + 4, none⟩ = some (.int .u64 (a : Nat)) := (cell_of_cells hco (i * 7 + 4)).trans e4
        have o5 : wr.cell? ⟨ob, i * 7 + 5, none⟩ = some (.int .u64 (b : Nat)) := (cell_of_cells hco (i * 7 + 5)).trans e5
        have o6 : wr.cell? ⟨ob, i * 7 + 6, none⟩ = some (.int .i64 N) := (cell_of_cells hco (i * 7 + 6)).trans e6
        have lo := lt_of_cells hco
        have HCO := hidden hco
        have HGI := hidden hgi
        clear e0 e1 e2 e3 e4 e5 e6 h1 h3 h4 h5 hco hgi
        rcases h2 with rfl | rfl
        · have FT := hidden (fun (w1 : World) (g : Gr w.heap.size w w1) => format32 w1 (HGL.out w1 g))
          have C20 : Hid (∀ w, Calls Tryz.prog 20 #[.agg #[.int .u64 32, .int .u64 8, .int .u64 23]] w (Rt (.int .u64 4294967295) w)) := hidden fk32.c20
          obtain ⟨p, hpe⟩ : ∃ p, b % (2 * 2147483648) = p := ⟨_, rfl⟩
          have hp : p < 2 * 2147483648 := by rw [← hpe]; exact Nat.mod_lt _ (by decide)
          have eP : bits .and .u64 (b : Int) 4294967295 = (p : Int) := (fk32.aP b hbu).trans (by rw [hpe])
          have BO := hidden (both32 p hp)
          have SH := hidden (fun (w1 : World) (g : Gr w.heap.size w w1) => sh32 k 32 md ch a p N hau (Nat.lt_of_lt_of_le hp (by decide)) hn0 hn1 w1 (HGL.out w1 g) (HTB.out w1 g))
          clear hp hpe hbu
          obtain ⟨vb, hvb⟩ : ∃ vb, vb = wr.heap.size := ⟨_, rfl⟩
          go_upto_region 6 with (fail)
          refine wp_gen (fun w2 => w2.heap[ob]? = some (.cells c 29) ∧ w2.heap[vb]? = some (.cells #[.int .u8 k, .int .i64 32, .int .u8 md, .bool ch, .int .u64 (a : Nat), .int .u64 (b : Nat), .int .i64 N] 29) ∧ vb ≠ ob ∧ Gr w.heap.size w w2) ⟨blk_alloc HCO.out, by rw [hvb]; exact heap_new _ _, by rw [hvb]; exact Nat.ne_of_gt lo, HGI.out.alloc _⟩ ?_
          simp only [← hvb]
          have HVB : Hid (w.heap.size ≤ vb) := hidden (by rw [hvb]; exact HGI.out.2)
          clear hvb o0 o1 o2 o3 o4 o5 o6 lo HCO HGI
          rintro w2 ⟨b1, b2, nvo, hg⟩
          have o1 : w2.cell? ⟨vb, 1, none⟩ = some (.int .i64 32) := cell_of_cells b2 1
          have lo := lt_of_cells b2
          have HG2 := hidden hg
          have B1 := hidden b1
          have B2 := hidden b2
          have FT := hidden (FT.out w2 hg)
          clear b1 b2 hg
          go_upto_region 7 with (go_at_call 15; (with_reducible refine FT.out.mono ?_); rintro _ _ ⟨rfl, x1, rfl⟩)
          obtain ⟨fb, hfb⟩ : ∃ fb, fb = (ext w2 x1).heap.size := ⟨_, rfl⟩
          refine wp_gen (fun w3 => w3.heap[ob]? = some (.cells c 29) ∧ w3.heap[vb]? = some (.cells #[.int .u8 k, .int .i64 32, .int .u8 md, .bool ch, .int .u64 (a : Nat), .int .u64 (b : Nat), .int .i64 N] 29) ∧ w3.heap[fb]? = some (.cells #[.int .u64 32, .int .u64 8, .int .u64 23] 35) ∧ vb ≠ fb ∧ Gr w.heap.size w w3) ⟨blk_alloc (blk_ext B1.out), blk_alloc (blk_ext B2.out), by rw [hfb]; exact heap_new _ _, by have h1 := lt_of_cells B2.out; rw [hfb, ext_size]; omega, (HG2.out.ext _).alloc _⟩ ?_
          rw [ext_size] at hfb
          simp only [← hfb]
          clear hfb o1 lo B1 B2 HG2 FT
          rintro w3 ⟨b1, b2, b3, nvf, hg⟩
          have o0 : w3.cell? ⟨vb, 0, none⟩ = some (.int .u8 k) := cell_of_cells b2 0
          have o1 : w3.cell? ⟨vb, 1, none⟩ = some (.int .i64 32) := cell_of_cells b2 1
          have o2 : w3.cell? ⟨vb, 2, none⟩ = some (.int .u8 md) := cell_of_cells b2 2
          have o3 : w3.cell? ⟨vb, 3, none⟩ = some (.bool ch) := cell_of_cells b2 3
          have o4 : w3.cell? ⟨vb, 4, none⟩ = some (.int .u64 (a : Nat)) := cell_of_cells b2 4
          have o5 : w3.cell? ⟨vb, 5, none⟩ = some (.int .u64 (b : Nat)) := cell_of_cells b2 5
          have o6 : w3.cell? ⟨vb, 6, none⟩ = some (.int .i64 N) := cell_of_cells b2 6
          have q0 : w3.cell? ⟨fb, 0, none⟩ = some (.int .u64 32) := cell_of_cells b3 0
          have q1 : w3.cell? ⟨fb, 1, none⟩ = some (.int .u64 8) := cell_of_cells b3 1
          have q2 : w3.cell? ⟨fb, 2, none⟩ = some (.int .u64 23) := cell_of_cells b3 2
          have lo := lt_of_cells b2
          have lf := lt_of_cells b3
          have yv := mark_of_cells b2
          have HG3 := hidden hg
          have B1 := hidden b1
          have B2 := hidden b2
          have B3 := hidden b3
          clear b1 b2 b3 hg
          refine wp_region_ext_tail 6 (by kernel_rfl) (by kernel_rfl) (by kernel_rfl) ?_
          simp only [List.take_succ_cons, List.take_zero, List.drop_succ_cons, List.drop_zero]
          repeat (go_big_quiet_step ((go_at_call 20; first | with_reducible exact Calls_ext (C20.out _) | with_reducible exact Calls_ext2 (C20.out _))))
          refine wpQuiet_nil ?_
          rintro w4 ⟨x4, rfl⟩
          try simp only [eP]
          go_upto_region 8 with (fail)
          refine wp_gen (fun w4 => w4.heap[ob]? = some (.cells c 29) ∧ w4.heap[vb]? = some (.cells #[.int .u8 k, .int .i64 32, .int .u8 md, .bool ch, .int .u64 (a : Nat), .int .u64 (p : Nat), .int .i64 N] 29) ∧ w4.heap[fb]? = some (.cells #[.int .u64 32, .int .u64 8, .int .u64 23] 35) ∧ Gr w.heap.size w w4) ⟨(blk_far nvo.symm _ _).trans (blk_ext B1.out), (blk_set (blk_ext B2.out) 5 (.int .u64 (p : Nat))).trans (by simp), (blk_far nvf.symm _ _).trans (blk_ext B3.out), (HG3.out.ext _).setCell HVB.out _⟩ ?_
          clear yv o0 o1 o2 o3 o4 o5 o6 q0 q1 q2 lo lf B1 B2 B3 HG3 C20 eP nvo nvf HVB
          rintro w4 ⟨b1, b2, b3, hg⟩
          have o0 : w4.cell? ⟨vb, 0, none⟩ = some (.int .u8 k) := cell_of_cells b2 0
          have o1 : w4.cell? ⟨vb, 1, none⟩ = some (.int .i64 32) := cell_of_cells b2 1
          have o2 : w4.cell? ⟨vb, 2, none⟩ = some (.int .u8 md) := cell_of_cells b2 2
          have o3 : w4.cell? ⟨vb, 3, none⟩ = some (.bool ch) := cell_of_cells b2 3
          have o4 : w4.cell? ⟨vb, 4, none⟩ = some (.int .u64 (a : Nat)) := cell_of_cells b2 4
          have o5 : w4.cell? ⟨vb, 5, none⟩ = some (.int .u64 (p : Nat)) := cell_of_cells b2 5
          have o6 : w4.cell? ⟨vb, 6, none⟩ = some (.int .i64 N) := cell_of_cells b2 6
          have q0 : w4.cell? ⟨fb, 0, none⟩ = some (.int .u64 32) := cell_of_cells b3 0
          have q1 : w4.cell? ⟨fb, 1, none⟩ = some (.int .u64 8) := cell_of_cells b3 1
          have q2 : w4.cell? ⟨fb, 2, none⟩ = some (.int .u64 23) := cell_of_cells b3 2
          have lo := lt_of_cells b2
          have lf := lt_of_cells b3
          have SH := hidden (SH.out w4 hg)
          have HG4 := hidden hg
          have B1 := hidden b1
          have B2 := hidden b2
          have B3 := hidden b3
          clear b1 b2 b3 hg
          go_upto_region 12 with (go_at_call 33; (with_reducible refine SH.out.mono ?_); rintro _ _ ⟨rfl, x5, rfl⟩)
          refine wp_gen (fun w5 => w5.heap[ob]? = some (.cells c 29) ∧ w5.heap[vb]? = some (.cells #[.int .u8 k, .int .i64 32, .int .u8 md, .bool ch, .int .u64 (a : Nat), .int .u64 (p : Nat), .int .i64 N] 29) ∧ w5.heap[fb]? = some (.cells #[.int .u64 32, .int .u64 8, .int .u64 23] 35) ∧ Gr w.heap.size w w5) ⟨blk_ext B1.out, blk_ext B2.out, blk_ext B3.out, HG4.out.ext _⟩ ?_
          clear o0 o1 o2 o3 o4 o5 o6 q0 q1 q2 lo lf B1 B2 B3 HG4 SH
          rintro w5 ⟨b1, b2, b3, hg⟩
          have o0 : w5.cell? ⟨vb, 0, none⟩ = some (.int .u8 k) := cell_of_cells b2 0
          have o1 : w5.cell? ⟨vb, 1, none⟩ = some (.int .i64 32) := cell_of_cells b2 1
          have o2 : w5.cell? ⟨vb, 2, none⟩ = some (.int .u8 md) := cell_of_cells b2 2
          have o3 : w5.cell? ⟨vb, 3, none⟩ = some (.bool ch) := cell_of_cells b2 3
          have o4 : w5.cell? ⟨vb, 4, none⟩ = some (.int .u64 (a : Nat)) := cell_of_cells b2 4
          have o5 : w5.cell? ⟨vb, 5, none⟩ = some (.int .u64 (p : Nat)) := cell_of_cells b2 5
          have o6 : w5.cell? ⟨vb, 6, none⟩ = some (.int .i64 N) := cell_of_cells b2 6
          have q0 : w5.cell? ⟨fb, 0, none⟩ = some (.int .u64 32) := cell_of_cells b3 0
          have q1 : w5.cell? ⟨fb, 1, none⟩ = some (.int .u64 8) := cell_of_cells b3 1
          have q2 : w5.cell? ⟨fb, 2, none⟩ = some (.int .u64 23) := cell_of_cells b3 2
          have lo := lt_of_cells b2
          have lf := lt_of_cells b3
          have HG5 := hidden hg
          have B1 := hidden b1
          have B2 := hidden b2
          have B3 := hidden b3
          have ER := hidden (HER.out w5 hg)
          clear b1 b2 b3 hg
          rcases BO.out with hE | ⟨ex, sg, lx, ls, s, o, k26, k29, k32, k37, k38, k39, k40⟩
          · have C26 := hidden (hE ty ev w5 ER.out.1 ER.out.2)
            clear hE BO
            go_wp2_with (go_at_call 26; (with_reducible refine C26.out.mono ?_); rintro _ _ ⟨rfl, x26, rfl⟩)
            exact ⟨⟨i + 1, rfl, by omega, by (first | exact blk_alloc (blk_ext B1.out) | exact blk_ext B1.out), by (repeat (first | exact HG5.out | refine Gr.setCell ?_ (by simp) _ | refine Gr.ext ?_ _ | refine Gr.alloc ?_ _))⟩, by simp [intOf]; omega⟩
          · clear BO
            obtain ⟨m, hm⟩ : ∃ m, wrap32 N = m := ⟨_, rfl⟩
            obtain ⟨hm0, hm1⟩ : -2147483648 ≤ m ∧ m ≤ 2147483647 := by unfold wrap32 at hm; omega
            have hm2 : IntKind.i32.wrap N = m := by rw [← hm, IntKind.wrap_i32]; unfold wrap32; omega
            obtain ⟨r1, f1, k29, k35⟩ := k29 m hm0 hm1
            obtain ⟨r2, f2, k32, k36⟩ := k32 a hau
            have C26 : Hid (Calls Tryz.prog 26 #[.agg #[.int .u64 32, .int .u64 8, .int .u64 23], .int .u64 p] w5 (Rt (.tuple #[.agg #[.int .u64 32, .int .u64 8, .int .u64 23, .int .u64 (p : Nat), .bool s, .int .i64 ex, .int .u64 sg, .bool s, .int .i64 lx, .int .u64 ls], .nilIface]) w5)) := hidden (k26 w5)
            have C29 := hidden k29
            have C35 := hidden k35
            have C32 := hidden k32
            have C36 := hidden k36
            have C37 := hidden k37
            have C38 := hidden k38
            have C39 := hidden k39
            have C40 := hidden k40
            clear k26 k29 k35 k32 k36 k37 k38 k39 k40
            go_upto_region 13 with (go_at_call 26; (with_reducible refine C26.out.mono ?_); rintro _ _ ⟨rfl, x26, rfl⟩)
            obtain ⟨mb, hmb⟩ : ∃ mb, mb = (ext w5 x26).heap.size := ⟨_, rfl⟩
            refine wp_gen (fun w6 => w6.heap[ob]? = some (.cells c 29) ∧ w6.heap[vb]? = some (.cells #[.int .u8 k, .int .i64 32, .int .u8 md, .bool ch, .int .u64 (a : Nat), .int .u64 (p : Nat), .int .i64 N] 29) ∧ w6.heap[fb]? = some (.cells #[.int .u64 32, .int .u64 8, .int .u64 23] 35) ∧ w6.heap[mb]? = some (.cells #[.int .u64 32, .int .u64 8, .int .u64 23, .int .u64 (p : Nat), .bool s, .int .i64 ex, .int .u64 sg, .bool s, .int .i64 lx, .int .u64 ls] 59) ∧ Gr w.heap.size w w6) ⟨blk_alloc (blk_ext B1.out), blk_alloc (blk_ext B2.out), blk_alloc (blk_ext B3.out), by rw [hmb]; exact heap_new _ _, (HG5.out.ext _).alloc _⟩ ?_
            rw [ext_size] at hmb
            simp only [← hmb]
            clear hmb o0 o1 o2 o3 o4 o5 o6 q0 q1 q2 lo lf B1 B2 B3 HG5 C26 ER hau
            rintro w6 ⟨b1, b2, b3, b4, hg⟩
            have o0 : w6.cell? ⟨vb, 0, none⟩ = some (.int .u8 k) := cell_of_cells b2 0
            have o1 : w6.cell? ⟨vb, 1, none⟩ = some (.int .i64 32) := cell_of_cells b2 1
            have o2 : w6.cell? ⟨vb, 2, none⟩ = some (.int .u8 md) := cell_of_cells b2 2
            have o3 : w6.cell? ⟨vb, 3, none⟩ = some (.bool ch) := cell_of_cells b2 3
            have o4 : w6.cell? ⟨vb, 4, none⟩ = some (.int .u64 (a : Nat)) := cell_of_cells b2 4
            have o5 : w6.cell? ⟨vb, 5, none⟩ = some (.int .u64 (p : Nat)) := cell_of_cells b2 5
            have o6 : w6.cell? ⟨vb, 6, none⟩ = some (.int .i64 N) := cell_of_cells b2 6
            have q0 : w6.cell? ⟨fb, 0, none⟩ = some (.int .u64 32) := cell_of_cells b3 0
            have q1 : w6.cell? ⟨fb, 1, none⟩ = some (.int .u64 8) := cell_of_cells b3 1
            have q2 : w6.cell? ⟨fb, 2, none⟩ = some (.int .u64 23) := cell_of_cells b3 2
            have m0 : w6.cell? ⟨mb, 0, none⟩ = some (.int .u64 32) := cell_of_cells b4 0
            have m1 : w6.cell? ⟨mb, 1, none⟩ = some (.int .u64 8) := cell_of_cells b4 1
            have m2 : w6.cell? ⟨mb, 2, none⟩ = some (.int .u64 23) := cell_of_cells b4 2
            have m3 : w6.cell? ⟨mb, 3, none⟩ = some (.int .u64 (p : Nat)) := cell_of_cells b4 3
            have m4 : w6.cell? ⟨mb, 4, none⟩ = some (.bool s) := cell_of_cells b4 4
            have m5 : w6.cell? ⟨mb, 5, none⟩ = some (.int .i64 ex) := cell_of_cells b4 5
            have m6 : w6.cell? ⟨mb, 6, none⟩ = some (.int .u64 sg) := cell_of_cells b4 6
            have m7 : w6.cell? ⟨mb, 7, none⟩ = some (.bool s) := cell_of_cells b4 7
            have m8 : w6.cell? ⟨mb, 8, none⟩ = some (.int .i64 lx) := cell_of_cells b4 8
            have m9 : w6.cell? ⟨mb, 9, none⟩ = some (.int .u64 ls) := cell_of_cells b4 9
            have lo := lt_of_cells b2
            have lf := lt_of_cells b3
            have lm := lt_of_cells b4
            have HG6 := hidden hg
            have B1 := hidden b1
            clear b1 b2 b3 b4 hg
            go_upto_region 21 with (first | (go_at_call 29; (with_reducible refine (C29.out _).mono ?_); rintro _ _ ⟨rfl, x29, rfl⟩) | (go_at_call 35; (with_reducible refine (C35.out _).mono ?_); rintro _ _ ⟨rfl, x35, rfl⟩) | (go_at_call 32; (with_reducible refine (C32.out _).mono ?_); rintro _ _ ⟨rfl, x32, rfl⟩) | (go_at_call 36; (with_reducible refine (C36.out _).mono ?_); rintro _ _ ⟨rfl, x36, rfl⟩))
            refine wp_region_ext (by kernel_rfl) (by kernel_rfl) ?_
            repeat (go_big_quiet_step (first | (go_at_call 37; first | with_reducible exact Calls_ext (C37.out _) | with_reducible exact Calls_ext2 (C37.out _)) | (go_at_call 38; first | with_reducible exact Calls_ext (C38.out _) | with_reducible exact Calls_ext2 (C38.out _)) | (go_at_call 39; first | with_reducible exact Calls_ext (C39.out _) | with_reducible exact Calls_ext2 (C39.out _)) | (go_at_call 40; first | with_reducible exact Calls_ext (C40.out _) | with_reducible exact Calls_ext2 (C40.out _))))
            refine wpQuiet_nil ?_
            rintro w7 ⟨x7, rfl⟩
            go_wp2_with (fail)
            exact ⟨⟨i + 1, rfl, by omega, by (first | exact blk_ext B1.out), HG6.out.ext _⟩, by simp [intOf]; omega⟩
        · have FT := hidden (fun (w1 : World) (g : Gr w.heap.size w w1) => format64 w1 (HGL.out w1 g))
          have C20 : Hid (∀ w, Calls Tryz.prog 20 #[.agg #[.int .u64 64, .int .u64 11, .int .u64 52]] w (Rt (.int .u64 18446744073709551615) w)) := hidden fk64.c20
          obtain ⟨p, hpe⟩ : ∃ p, b % (2 * 9223372036854775808) = p := ⟨_, rfl⟩
          have hp : p < 2 * 9223372036854775808 := by rw [← hpe]; exact Nat.mod_lt _ (by decide)
          have eP : bits .and .u64 (b : Int) 18446744073709551615 = (p : Int) := (fk64.aP b hbu).trans (by rw [hpe])
          have BO := hidden (both64 p hp)
          have SH := hidden (fun (w1 : World) (g : Gr w.heap.size w w1) => sh64 k 64 md ch a p N hau (Nat.lt_of_lt_of_le hp (by decide)) hn0 hn1 w1 (HGL.out w1 g) (HTB.out w1 g))
          clear hp hpe hbu
          obtain ⟨vb, hvb⟩ : ∃ vb, vb = wr.heap.size := ⟨_, rfl⟩
          go_upto_region 6 with (fail)
          refine wp_gen (fun w2 => w2.heap[ob]? = some (.cells c 29) ∧ w2.heap[vb]? = some (.cells #[.int .u8 k, .int .i64 64, .int .u8 md, .bool ch, .int .u64 (a : Nat), .int .u64 (b : Nat), .int .i64 N] 29) ∧ vb ≠ ob ∧ Gr w.heap.size w w2) ⟨blk_alloc HCO.out, by rw [hvb]; exact heap_new _ _, by rw [hvb]; exact Nat.ne_of_gt lo, HGI.out.alloc _⟩ ?_
          simp only [← hvb]
          have HVB : Hid (w.heap.size ≤ vb) := hidden (by rw [hvb]; exact HGI.out.2)
          clear hvb o0 o1 o2 o3 o4 o5 o6 lo HCO HGI
          rintro w2 ⟨b1, b2, nvo, hg⟩
          have o1 : w2.cell? ⟨vb, 1, none⟩ = some (.int .i64 64) := cell_of_cells b2 1
          have lo := lt_of_cells b2
          have HG2 := hidden hg
          have B1 := hidden b1
          have B2 := hidden b2
          have FT := hidden (FT.out w2 hg)
          clear b1 b2 hg
          go_upto_region 7 with (go_at_call 15; (with_reducible refine FT.out.mono ?_); rintro _ _ ⟨rfl, x1, rfl⟩)
          obtain ⟨fb, hfb⟩ : ∃ fb, fb = (ext w2 x1).heap.size := ⟨_, rfl⟩
          refine wp_gen (fun w3 => w3.heap[ob]? = some (.cells c 29) ∧ w3.heap[vb]? = some (.cells #[.int .u8 k, .int .i64 64, .int .u8 md, .bool ch, .int .u64 (a : Nat), .int .u64 (b : Nat), .int .i64 N] 29) ∧ w3.heap[fb]? = some (.cells #[.int .u64 64, .int .u64 11, .int .u64 52] 35) ∧ vb ≠ fb ∧ Gr w.heap.size w w3) ⟨blk_alloc (blk_ext B1.out), blk_alloc (blk_ext B2.out), by rw [hfb]; exact heap_new _ _, by have h1 := lt_of_cells B2.out; rw [hfb, ext_size]; omega, (HG2.out.ext _).alloc _⟩ ?_
          rw [ext_size] at hfb
          simp only [← hfb]
          clear hfb o1 lo B1 B2 HG2 FT
          rintro w3 ⟨b1, b2, b3, nvf, hg⟩
          have o0 : w3.cell? ⟨vb, 0, none⟩ = some (.int .u8 k) := cell_of_cells b2 0
          have o1 : w3.cell? ⟨vb, 1, none⟩ = some (.int .i64 64) := cell_of_cells b2 1
          have o2 : w3.cell? ⟨vb, 2, none⟩ = some (.int .u8 md) := cell_of_cells b2 2
          have o3 : w3.cell? ⟨vb, 3, none⟩ = some (.bool ch) := cell_of_cells b2 3
          have o4 : w3.cell? ⟨vb, 4, none⟩ = some (.int .u64 (a : Nat)) := cell_of_cells b2 4
          have o5 : w3.cell? ⟨vb, 5, none⟩ = some (.int .u64 (b : Nat)) := cell_of_cells b2 5
          have o6 : w3.cell? ⟨vb, 6, none⟩ = some (.int .i64 N) := cell_of_cells b2 6
          have q0 : w3.cell? ⟨fb, 0, none⟩ = some (.int .u64 64) := cell_of_cells b3 0
          have q1 : w3.cell? ⟨fb, 1, none⟩ = some (.int .u64 11) := cell_of_cells b3 1
          have q2 : w3.cell? ⟨fb, 2, none⟩ = some (.int .u64 52) := cell_of_cells b3 2
          have lo := lt_of_cells b2
          have lf := lt_of_cells b3
          have yv := mark_of_cells b2
          have HG3 := hidden hg
          have B1 := hidden b1
          have B2 := hidden b2
          have B3 := hidden b3
          clear b1 b2 b3 hg
          refine wp_region_ext_tail 6 (by kernel_rfl) (by kernel_rfl) (by kernel_rfl) ?_
          simp only [List.take_succ_cons, List.take_zero, List.drop_succ_cons, List.drop_zero]
          repeat (go_big_quiet_step ((go_at_call 20; first | with_reducible exact Calls_ext (C20.out _) | with_reducible exact Calls_ext2 (C20.out _))))
          refine wpQuiet_nil ?_
          rintro w4 ⟨x4, rfl⟩
          try simp only [eP]
          go_upto_region 8 with (fail)
          refine wp_gen (fun w4 => w4.heap[ob]? = some (.cells c 29) ∧ w4.heap[vb]? = some (.cells #[.int .u8 k, .int .i64 64, .int .u8 md, .bool ch, .int .u64 (a : Nat), .int .u64 (p : Nat), .int .i64 N] 29) ∧ w4.heap[fb]? = some (.cells #[.int .u64 64, .int .u64 11, .int .u64 52] 35) ∧ Gr w.heap.size w w4) ⟨(blk_far nvo.symm _ _).trans (blk_ext B1.out), (blk_set (blk_ext B2.out) 5 (.int .u64 (p : Nat))).trans (by simp), (blk_far nvf.symm _ _).trans (blk_ext B3.out), (HG3.out.ext _).setCell HVB.out _⟩ ?_
          clear yv o0 o1 o2 o3 o4 o5 o6 q0 q1 q2 lo lf B1 B2 B3 HG3 C20 eP nvo nvf HVB
          rintro w4 ⟨b1, b2, b3, hg⟩
          have o0 : w4.cell? ⟨vb, 0, none⟩ = some (.int .u8 k) := cell_of_cells b2 0
          have o1 : w4.cell? ⟨vb, 1, none⟩ = some (.int .i64 64) := cell_of_cells b2 1
          have o2 : w4.cell? ⟨vb, 2, none⟩ = some (.int .u8 md) := cell_of_cells b2 2
          have o3 : w4.cell? ⟨vb, 3, none⟩ = some (.bool ch) := cell_of_cells b2 3
          have o4 : w4.cell? ⟨vb, 4, none⟩ = some (.int .u64 (a : Nat)) := cell_of_cells b2 4
          have o5 : w4.cell? ⟨vb, 5, none⟩ = some (.int .u64 (p : Nat)) := cell_of_cells b2 5
          have o6 : w4.cell? ⟨vb, 6, none⟩ = some (.int .i64 N) := cell_of_cells b2 6
          have q0 : w4.cell? ⟨fb, 0, none⟩ = some (.int .u64 64) := cell_of_cells b3 0
          have q1 : w4.cell? ⟨fb, 1, none⟩ = some (.int .u64 11) := cell_of_cells b3 1
          have q2 : w4.cell? ⟨fb, 2, none⟩ = some (.int .u64 52) := cell_of_cells b3 2
          have lo := lt_of_cells b2
          have lf := lt_of_cells b3
          have SH := hidden (SH.out w4 hg)
          have HG4 := hidden hg
          have B1 := hidden b1
          have B2 := hidden b2
          have B3 := hidden b3
          clear b1 b2 b3 hg
          go_upto_region 12 with (go_at_call 34; (with_reducible refine SH.out.mono ?_); rintro _ _ ⟨rfl, x5, rfl⟩)
          refine wp_gen (fun w5 => w5.heap[ob]? = some (.cells c 29) ∧ w5.heap[vb]? = some (.cells #[.int .u8 k, .int .i64 64, .int .u8 md, .bool ch, .int .u64 (a : Nat), .int .u64 (p : Nat), .int .i64 N] 29) ∧ w5.heap[fb]? = some (.cells #[.int .u64 64, .int .u64 11, .int .u64 52] 35) ∧ Gr w.heap.size w w5) ⟨blk_ext B1.out, blk_ext B2.out, blk_ext B3.out, HG4.out.ext _⟩ ?_
          clear o0 o1 o2 o3 o4 o5 o6 q0 q1 q2 lo lf B1 B2 B3 HG4 SH
          rintro w5 ⟨b1, b2, b3, hg⟩
          have o0 : w5.cell? ⟨vb, 0, none⟩ = some (.int .u8 k) := cell_of_cells b2 0
          have o1 : w5.cell? ⟨vb, 1, none⟩ = some (.int .i64 64) := cell_of_cells b2 1
          have o2 : w5.cell? ⟨vb, 2, none⟩ = some (.int .u8 md) := cell_of_cells b2 2
          have o3 : w5.cell? ⟨vb, 3, none⟩ = some (.bool ch) := cell_of_cells b2 3
          have o4 : w5.cell? ⟨vb, 4, none⟩ = some (.int .u64 (a : Nat)) := cell_of_cells b2 4
          have o5 : w5.cell? ⟨vb, 5, none⟩ = some (.int .u64 (p : Nat)) := cell_of_cells b2 5
          have o6 : w5.cell? ⟨vb, 6, none⟩ = some (.int .i64 N) := cell_of_cells b2 6
          have q0 : w5.cell? ⟨fb, 0, none⟩ = some (.int .u64 64) := cell_of_cells b3 0
          have q1 : w5.cell? ⟨fb, 1, none⟩ = some (.int .u64 11) := cell_of_cells b3 1
          have q2 : w5.cell? ⟨fb, 2, none⟩ = some (.int .u64 52) := cell_of_cells b3 2
          have lo := lt_of_cells b2
          have lf := lt_of_cells b3
          have HG5 := hidden hg
          have B1 := hidden b1
          have B2 := hidden b2
          have B3 := hidden b3
          have ER := hidden (HER.out w5 hg)
          clear b1 b2 b3 hg
          rcases BO.out with hE | ⟨ex, sg, lx, ls, s, o, k26, k29, k32, k37, k38, k39, k40⟩
          · have C26 := hidden (hE ty ev w5 ER.out.1 ER.out.2)
            clear hE BO
            go_wp2_with (go_at_call 26; (with_reducible refine C26.out.mono ?_); rintro _ _ ⟨rfl, x26, rfl⟩)
            exact ⟨⟨i + 1, rfl, by omega, by (first | exact blk_alloc (blk_ext B1.out) | exact blk_ext B1.out), by (repeat (first | exact HG5.out | refine Gr.setCell ?_ (by simp) _ | refine Gr.ext ?_ _ | refine Gr.alloc ?_ _))⟩, by simp [intOf]; omega⟩
          · clear BO
            obtain ⟨m, hm⟩ : ∃ m, wrap32 N = m := ⟨_, rfl⟩
            obtain ⟨hm0, hm1⟩ : -2147483648 ≤ m ∧ m ≤ 2147483647 := by unfold wrap32 at hm; omega
            have hm2 : IntKind.i32.wrap N = m := by rw [← hm, IntKind.wrap_i32]; unfold wrap32; omega
            obtain ⟨r1, f1, k29, k35⟩ := k29 m hm0 hm1
            obtain ⟨r2, f2, k32, k36⟩ := k32 a hau
            have C26 : Hid (Calls Tryz.prog 26 #[.agg #[.int .u64 64, .int .u64 11, .int .u64 52], .int .u64 p] w5 (Rt (.tuple #[.agg #[.int .u64 64, .int .u64 11, .int .u64 52, .int .u64 (p : Nat), .bool s, .int .i64 ex, .int .u64 sg, .bool s, .int .i64 lx, .int .u64 ls], .nilIface]) w5)) := hidden (k26 w5)
            have C29 := hidden k29
            have C35 := hidden k35
            have C32 := hidden k32
            have C36 := hidden k36
            have C37 := hidden k37
            have C38 := hidden k38
            have C39 := hidden k39
            have C40 := hidden k40
            clear k26 k29 k35 k32 k36 k37 k38 k39 k40
            go_upto_region 13 with (go_at_call 26; (with_reducible refine C26.out.mono ?_); rintro _ _ ⟨rfl, x26, rfl⟩)
            obtain ⟨mb, hmb⟩ : ∃ mb, mb = (ext w5 x26).heap.size := ⟨_, rfl⟩
            refine wp_gen (fun w6 => w6.heap[ob]? = some (.cells c 29) ∧ w6.heap[vb]? = some (.cells #[.int .u8 k, .int .i64 64, .int .u8 md, .bool ch, .int .u64 (a : Nat), .int .u64 (p : Nat), .int .i64 N] 29) ∧ w6.heap[fb]? = some (.cells #[.int .u64 64, .int .u64 11, .int .u64 52] 35) ∧ w6.heap[mb]? = some (.cells #[.int .u64 64, .int .u64 11, .int .u64 52, .int .u64 (p : Nat), .bool s, .int .i64 ex, .int .u64 sg, .bool s, .int .i64 lx, .int .u64 ls] 59) ∧ Gr w.heap.size w w6) ⟨blk_alloc (blk_ext B1.out), blk_alloc (blk_ext B2.out), blk_alloc (blk_ext B3.out), by rw [hmb]; exact heap_new _ _, (HG5.out.ext _).alloc _⟩ ?_
            rw [ext_size] at hmb
            simp only [← hmb]
            clear hmb o0 o1 o2 o3 o4 o5 o6 q0 q1 q2 lo lf B1 B2 B3 HG5 C26 ER hau
            rintro w6 ⟨b1, b2, b3, b4, hg⟩
            have o0 : w6.cell? ⟨vb, 0, none⟩ = some (.int .u8 k) := cell_of_cells b2 0
            have o1 : w6.cell? ⟨vb, 1, none⟩ = some (.int .i64 64) := cell_of_cells b2 1
            have o2 : w6.cell? ⟨vb, 2, none⟩ = some (.int .u8 md) := cell_of_cells b2 2
            have o3 : w6.cell? ⟨vb, 3, none⟩ = some (.bool ch) := cell_of_cells b2 3
            have o4 : w6.cell? ⟨vb, 4, none⟩ = some (.int .u64 (a : Nat)) := cell_of_cells b2 4
            have o5 : w6.cell? ⟨vb, 5, none⟩ = some (.int .u64 (p : Nat)) := cell_of_cells b2 5
            have o6 : w6.cell? ⟨vb, 6, none⟩ = some (.int .i64 N) := cell_of_cells b2 6
            have q0 : w6.cell? ⟨fb, 0, none⟩ = some (.int .u64 64) := cell_of_cells b3 0
            have q1 : w6.cell? ⟨fb, 1, none⟩ = some (.int .u64 11) := cell_of_cells b3 1
            have q2 : w6.cell? ⟨fb, 2, none⟩ = some (.int .u64 52) := cell_of_cells b3 2
            have m0 : w6.cell? ⟨mb, 0, none⟩ = some (.int .u64 64) := cell_of_cells b4 0
            have m1 : w6.cell? ⟨mb, 1, none⟩ = some (.int .u64 11) := cell_of_cells b4 1
            have m2 : w6.cell? ⟨mb, 2, none⟩ = some (.int .u64 52) := cell_of_cells b4 2
            have m3 : w6.cell? ⟨mb, 3, none⟩ = some (.int .u64 (p : Nat)) := cell_of_cells b4 3
            have m4 : w6.cell? ⟨mb, 4, none⟩ = some (.bool s) := cell_of_cells b4 4
            have m5 : w6.cell? ⟨mb, 5, none⟩ = some (.int .i64 ex) := cell_of_cells b4 5
            have m6 : w6.cell? ⟨mb, 6, none⟩ = some (.int .u64 sg) := cell_of_cells b4 6
            have m7 : w6.cell? ⟨mb, 7, none⟩ = some (.bool s) := cell_of_cells b4 7
            have m8 : w6.cell? ⟨mb, 8, none⟩ = some (.int .i64 lx) := cell_of_cells b4 8
            have m9 : w6.cell? ⟨mb, 9, none⟩ = some (.int .u64 ls) := cell_of_cells b4 9
            have lo := lt_of_cells b2
            have lf := lt_of_cells b3
            have lm := lt_of_cells b4
            have HG6 := hidden hg
            have B1 := hidden b1
            clear b1 b2 b3 b4 hg
            go_upto_region 21 with (first | (go_at_call 29; (with_reducible refine (C29.out _).mono ?_); rintro _ _ ⟨rfl, x29, rfl⟩) | (go_at_call 35; (with_reducible refine (C35.out _).mono ?_); rintro _ _ ⟨rfl, x35, rfl⟩) | (go_at_call 32; (with_reducible refine (C32.out _).mono ?_); rintro _ _ ⟨rfl, x32, rfl⟩) | (go_at_call 36; (with_reducible refine (C36.out _).mono ?_); rintro _ _ ⟨rfl, x36, rfl⟩))
            refine wp_region_ext (by kernel_rfl) (by kernel_rfl) ?_
            repeat (go_big_quiet_step (first | (go_at_call 37; first | with_reducible exact Calls_ext (C37.out _) | with_reducible exact Calls_ext2 (C37.out _)) | (go_at_call 38; first | with_reducible exact Calls_ext (C38.out _) | with_reducible exact Calls_ext2 (C38.out _)) | (go_at_call 39; first | with_reducible exact Calls_ext (C39.out _) | with_reducible exact Calls_ext2 (C39.out _)) | (go_at_call 40; first | with_reducible exact Calls_ext (C40.out _) | with_reducible exact Calls_ext2 (C40.out _))))
            refine wpQuiet_nil ?_
            rintro w7 ⟨x7, rfl⟩
            go_wp2_with (fail)
            exact ⟨⟨i + 1, rfl, by omega, by (first | exact blk_ext B1.out), HG6.out.ext _⟩, by simp [intOf]; omega⟩
      · have HGI := hidden hgi
        clear hco hgi
        go_wp2_with (fail)
        go_ret
        exact ⟨rfl, Gr.of HGI.out⟩
  · go_wp2_with (go_at_call 10; (with_reducible refine SM.out.mono ?_); rintro _ w ⟨rfl, rfl⟩)
    go_ret
    exact ⟨rfl, Gr.of (Gr.refl _)⟩
end Go.Proofs.Qxb6500680aGreatDoor
