import Derived.Test.Qxb6500680aGreatDoorSc
namespace Go.Proofs.Qxb6500680aGreatDoor
open Go.RowKit Go.BigFrame
set_option linter.unusedSimpArgs false
attribute [local go_sem] ext_cell_if ext_frozen_if alloc_cell_if alloc_frozen_if ext_size ext_ext
theorem get_of_lt {c : Array Value} {p : Nat} (h : p < c.size) : ∃ v, c[p]? = some v := ⟨c[p], by simp [h]⟩
set_option maxRecDepth 100000 in
set_option maxHeartbeats 8000000 in
theorem resolve_any (ply : ∀ v, OpV v → ∀ w, Gw w → Lib.TabIs Tryz.prog w "internal/strconv.uint64pow10" .u64 Lib.pow10Tab → Calls Tryz.prog 66 #[v] w (PlayOK w)) (sv : Value) (n : Nat) (w : World) (hs : Scr w sv n) (hn : n ≤ 65536) (hw : Gw w) (ht : Lib.TabIs Tryz.prog w "internal/strconv.uint64pow10" .u64 Lib.pow10Tab) : Calls Tryz.prog 11 #[sv] w (ResOK n w) := by
  obtain ⟨sa, sc, rfl, hs⟩ := hs
  have HS := hidden hs
  have HGW := hidden (fun (w1 : World) (g : Gr w.heap.size w w1) => Gw.gr w w1 hw g)
  have HTT := hidden (Lib.tabBelow_of_tabIs ht)
  have PLY := hidden (fun v (h : OpV v) (w1 : World) (g : Gr w.heap.size w w1) => ply v h w1 (HGW.out w1 g) (HTT.out.on g.1).here)
  obtain ⟨c0, hc0, hmk⟩ := make29 n hn w
  clear hs hw ht HGW HTT ply
  go_enter Tryz.func11, Tryz.ntmps11
  go_upto_region 3 with (fail)
  clear hmk
  obtain ⟨ob, hob⟩ : ∃ ob, ob = w.heap.size := ⟨_, rfl⟩
  obtain ⟨pb, hpb⟩ : ∃ pb, pb = ob + 1 := ⟨_, rfl⟩
  refine wp_gen (fun w1 => w1.heap[ob]? = some (.cells c0 29) ∧ w1.heap[pb]? = some (.cells #[.int .u64 0, .int .i64 0, .int .i64 0, .int .u8 0, .int .u8 0, .int .u8 0, .int .i8 0, .string ⟨#[]⟩, .bool false] 108) ∧ Gr w.heap.size w w1) ?_ ?_
  · have e : w.heap.size + 1 = (w.alloc (.cells c0 29)).heap.size := by simp
    refine ⟨?_, ?_, ((Gr.refl w).alloc _).alloc _⟩
    · rw [hob]
      exact blk_alloc (heap_new _ _)
    · rw [hpb, hob, e]
      exact heap_new _ _
  simp only [← hob, ← hpb]
  have hol : Hid (w.heap.size ≤ ob) := hidden (by omega)
  have hpl : Hid (w.heap.size ≤ pb) := hidden (by omega)
  have nop : ob ≠ pb := by omega
  have hobe : Hid (ob = w.heap.size) := hidden hob
  clear hob hpb
  rintro w1 ⟨b1, b2, hg⟩
  rw [hobe.out] at hg
  have B1 := hidden b1
  have B2 := hidden b2
  have HG := hidden hg
  clear b1 b2 hg
  go_wp2_with (fail)
  go_loopw [5, 6, 12] (fun _ _ s12 wi => ∃ (i : Nat) (c r : Array Value), s12 = .int .i64 i ∧ i ≤ n ∧ c.size = n * 7 ∧ wi.heap[ob]? = some (.cells c 29) ∧ wi.heap[pb]? = some (.cells r 108) ∧ ResV (.agg r) ∧ (∀ j, j < i → Opc c j) ∧ Gr w.heap.size w wi) (fun _ _ s12 _ => (n - intOf s12).toNat)
  case atStart => exact ⟨0, c0, #[.int .u64 0, .int .i64 0, .int .i64 0, .int .u8 0, .int .u8 0, .int .u8 0, .int .i8 0, .string ⟨#[]⟩, .bool false], rfl, by omega, hc0, B1.out, B2.out, ⟨0, 0, 0, 0, 0, 0, 0, ⟨#[]⟩, false, rfl, u64_in _ (by decide) (by decide)⟩, fun j hj => by omega, HG.out⟩
  case round =>
    obtain ⟨i, c, r, rfl, hi, hcs, hco, hpo, ⟨P, Wd, I, F, S, C, O, T, Fd, hr, hP⟩, hall, hgi⟩ := hrel
    injection hr with hr
    subst hr
    clear B1 B2 HG w1
    have HALL := hidden hall
    clear hall
    by_cases hin : i < n
    · obtain ⟨b, off, rfl, hbl, hsc⟩ := HS.out (by omega)
      obtain ⟨k, W, md, ch, A, B, N, g0, g1, g2, g3, g4, g5, g6, i1, i2, i3, i4, i5⟩ := hsc i hin
      have RD := hidden (fun (w' : World) (pv : Value) (hp : ResV pv) => ready_any k W md ch A B N i1 i2 i3 i4 i5 pv hp w')
      clear hsc i1 i2 i3 i4 i5
      have s0 : wr.cell? ⟨b, off + i * 7, none⟩ = some (.int .u8 k) := (hgi.1.cell (p := ⟨b, off + i * 7, none⟩) hbl).trans g0
      have s1 : wr.cell? ⟨b, off + i * 7 + 1, none⟩ = some (.int .i64 W) := (hgi.1.cell (p := ⟨b, off + i * 7 + 1, none⟩) hbl).trans g1
      have s2 : wr.cell? ⟨b, off + i * 7 + 2, none⟩ = some (.int .u8 md) := (hgi.1.cell (p := ⟨b, off + i * 7 + 2, none⟩) hbl).trans g2
      have s3 : wr.cell? ⟨b, off + i * 7 + 3, none⟩ = some (.bool ch) := (hgi.1.cell (p := ⟨b, off + i * 7 + 3, none⟩) hbl).trans g3
      have s4 : wr.cell? ⟨b, off + i * 7 + 4, none⟩ = some (.int .u64 A) := (hgi.1.cell (p := ⟨b, off + i * 7 + 4, none⟩) hbl).trans g4
      have s5 : wr.cell? ⟨b, off + i * 7 + 5, none⟩ = some (.int .u64 B) := (hgi.1.cell (p := ⟨b, off + i * 7 + 5, none⟩) hbl).trans g5
      have s6 : wr.cell? ⟨b, off + i * 7 + 6, none⟩ = some (.int .i64 N) := (hgi.1.cell (p := ⟨b, off + i * 7 + 6, none⟩) hbl).trans g6
      have hbw : b < wr.heap.size := Nat.lt_of_lt_of_le hbl hgi.2
      clear g0 g1 g2 g3 g4 g5 g6 hbl
      obtain ⟨d0, hd0⟩ := get_of_lt (c := c) (p := i * 7) (by omega)
      have o0 : wr.cell? ⟨ob, i * 7, none⟩ = some d0 := (cell_of_cells hco (i * 7)).trans hd0
      have mo0 := mark_of_cells hco (i * 7)
      clear hd0
      obtain ⟨d1, hd1⟩ := get_of_lt (c := c) (p := i * 7 + 1) (by omega)
      have o1 : wr.cell? ⟨ob, i * 7 + 1, none⟩ = some d1 := (cell_of_cells hco (i * 7 + 1)).trans hd1
      have mo1 := mark_of_cells hco (i * 7 + 1)
      clear hd1
      obtain ⟨d2, hd2⟩ := get_of_lt (c := c) (p := i * 7 + 2) (by omega)
      have o2 : wr.cell? ⟨ob, i * 7 + 2, none⟩ = some d2 := (cell_of_cells hco (i * 7 + 2)).trans hd2
      have mo2 := mark_of_cells hco (i * 7 + 2)
      clear hd2
      obtain ⟨d3, hd3⟩ := get_of_lt (c := c) (p := i * 7 + 3) (by omega)
      have o3 : wr.cell? ⟨ob, i * 7 + 3, none⟩ = some d3 := (cell_of_cells hco (i * 7 + 3)).trans hd3
      have mo3 := mark_of_cells hco (i * 7 + 3)
      clear hd3
      obtain ⟨d4, hd4⟩ := get_of_lt (c := c) (p := i * 7 + 4) (by omega)
      have o4 : wr.cell? ⟨ob, i * 7 + 4, none⟩ = some d4 := (cell_of_cells hco (i * 7 + 4)).trans hd4
      have mo4 := mark_of_cells hco (i * 7 + 4)
      clear hd4
      obtain ⟨d5, hd5⟩ := get_of_lt (c := c) (p := i * 7 + 5) (by omega)
      have o5 : wr.cell? ⟨ob, i * 7 + 5, none⟩ = some d5 := (cell_of_cells hco (i * 7 + 5)).trans hd5
      have mo5 := mark_of_cells hco (i * 7 + 5)
      clear hd5
      obtain ⟨d6, hd6⟩ := get_of_lt (c := c) (p := i * 7 + 6) (by omega)
      have o6 : wr.cell? ⟨ob, i * 7 + 6, none⟩ = some d6 := (cell_of_cells hco (i * 7 + 6)).trans hd6
      have mo6 := mark_of_cells hco (i * 7 + 6)
      clear hd6
      have p0 : wr.cell? ⟨pb, 0, none⟩ = some (.int .u64 P) := cell_of_cells hpo 0
      have p1 : wr.cell? ⟨pb, 1, none⟩ = some (.int .i64 Wd) := cell_of_cells hpo 1
      have p2 : wr.cell? ⟨pb, 2, none⟩ = some (.int .i64 I) := cell_of_cells hpo 2
      have p3 : wr.cell? ⟨pb, 3, none⟩ = some (.int .u8 F) := cell_of_cells hpo 3
      have p4 : wr.cell? ⟨pb, 4, none⟩ = some (.int .u8 S) := cell_of_cells hpo 4
      have p5 : wr.cell? ⟨pb, 5, none⟩ = some (.int .u8 C) := cell_of_cells hpo 5
      have p6 : wr.cell? ⟨pb, 6, none⟩ = some (.int .i8 O) := cell_of_cells hpo 6
      have p7 : wr.cell? ⟨pb, 7, none⟩ = some (.string T) := cell_of_cells hpo 7
      have p8 : wr.cell? ⟨pb, 8, none⟩ = some (.bool Fd) := cell_of_cells hpo 8
      have lo := lt_of_cells hco
      have lp := lt_of_cells hpo
      have HCO := hidden hco
      have HPO := hidden hpo
      have HGI := hidden hgi
      have HP := hidden hP
      clear hco hpo hgi hP
      have RD := hidden (fun (w' : World) => RD.out w' (.agg #[.int .u64 P, .int .i64 Wd, .int .i64 I, .int .u8 F, .int .u8 S, .int .u8 C, .int .i8 O, .string T, .bool Fd]) ⟨P, Wd, I, F, S, C, O, T, Fd, rfl, HP.out⟩)
      go_upto_region 7 with (go_at_call 65; (with_reducible refine (RD.out _).mono ?_); rintro _ _ ⟨v, rfl, ⟨k', W', md', ch', A', B', N', rfl, h1, h2, h3, h4, h5, h6⟩, x1, rfl⟩)
      obtain ⟨c', hc'⟩ : ∃ c', c' = set7 c (i * 7) (.int .u8 k') (.int .i64 W') (.int .u8 md') (.bool ch') (.int .u64 A') (.int .u64 B') (.int .i64 N') := ⟨_, rfl⟩
      refine wp_gen (fun w2 => w2.heap[ob]? = some (.cells c' 29) ∧ w2.heap[pb]? = some (.cells #[.int .u64 P, .int .i64 Wd, .int .i64 I, .int .u8 F, .int .u8 S, .int .u8 C, .int .i8 O, .string T, .bool Fd] 108) ∧ Gr w.heap.size w w2) ?_ ?_
      · refine ⟨?_, ?_, ?_⟩
        · rw [hc']
          exact (blk_set (blk_set (blk_set (blk_set (blk_set (blk_set (blk_set (blk_ext (blk_alloc HCO.out)) (i * 7) (.int .u8 k')) (i * 7 + 1) (.int .i64 W')) (i * 7 + 2) (.int .u8 md')) (i * 7 + 3) (.bool ch')) (i * 7 + 4) (.int .u64 A')) (i * 7 + 5) (.int .u64 B')) (i * 7 + 6) (.int .i64 N'))
        · rw [blk_far (Ne.symm nop), blk_far (Ne.symm nop), blk_far (Ne.symm nop), blk_far (Ne.symm nop), blk_far (Ne.symm nop), blk_far (Ne.symm nop), blk_far (Ne.symm nop)]
          exact blk_ext (blk_alloc HPO.out)
        · exact (((((((((HGI.out.alloc _).ext _).setCell (by exact hol.out) _).setCell (by exact hol.out) _).setCell (by exact hol.out) _).setCell (by exact hol.out) _).setCell (by exact hol.out) _).setCell (by exact hol.out) _).setCell (by exact hol.out) _)
      rintro w2 ⟨b1, b2, hg⟩
      clear s0 o0 mo0 s1 o1 mo1 s2 o2 mo2 s3 o3 mo3 s4 o4 mo4 s5 o5 mo5 s6 o6 mo6 p0 p1 p2 p3 p4 p5 p6 p7 p8 lo lp hbw RD HCO HPO HGI
      obtain ⟨e0, e1, e2, e3, e4, e5, e6⟩ := set7_in c (i * 7) (.int .u8 k') (.int .i64 W') (.int .u8 md') (.bool ch') (.int .u64 A') (.int .u64 B') (.int .i64 N') (by omega)
      rw [← hc'] at e0 e1 e2 e3 e4 e5 e6
      have o0 : w2.cell? ⟨ob, i * 7, none⟩ = some (.int .u8 k') := (cell_of_cells b1 (i * 7)).trans e0
      have o1 : w2.cell? ⟨ob, i * 7 + 1, none⟩ = some (.int .i64 W') := (cell_of_cells b1 (i * 7 + 1)).trans e1
      have o2 : w2.cell? ⟨ob, i * 7 + 2, none⟩ = some (.int .u8 md') := (cell_of_cells b1 (i * 7 + 2)).trans e2
      have o3 : w2.cell? ⟨ob, i * 7 + 3, none⟩ = some (.bool ch') := (cell_of_cells b1 (i * 7 + 3)).trans e3
      have o4 : w2.cell? ⟨ob, i * 7 + 4, none⟩ = some (.int .u64 A') := (cell_of_cells b1 (i * 7 + 4)).trans e4
      have o5 : w2.cell? ⟨ob, i * 7 + 5, none⟩ = some (.int .u64 B') := (cell_of_cells b1 (i * 7 + 5)).trans e5
      have o6 : w2.cell? ⟨ob, i * 7 + 6, none⟩ = some (.int .i64 N') := (cell_of_cells b1 (i * 7 + 6)).trans e6
      have p0 : w2.cell? ⟨pb, 0, none⟩ = some (.int .u64 P) := cell_of_cells b2 0
      have mp0 := mark_of_cells b2 0
      have p1 : w2.cell? ⟨pb, 1, none⟩ = some (.int .i64 Wd) := cell_of_cells b2 1
      have mp1 := mark_of_cells b2 1
      have p2 : w2.cell? ⟨pb, 2, none⟩ = some (.int .i64 I) := cell_of_cells b2 2
      have mp2 := mark_of_cells b2 2
      have p3 : w2.cell? ⟨pb, 3, none⟩ = some (.int .u8 F) := cell_of_cells b2 3
      have mp3 := mark_of_cells b2 3
      have p4 : w2.cell? ⟨pb, 4, none⟩ = some (.int .u8 S) := cell_of_cells b2 4
      have mp4 := mark_of_cells b2 4
      have p5 : w2.cell? ⟨pb, 5, none⟩ = some (.int .u8 C) := cell_of_cells b2 5
      have mp5 := mark_of_cells b2 5
      have p6 : w2.cell? ⟨pb, 6, none⟩ = some (.int .i8 O) := cell_of_cells b2 6
      have mp6 := mark_of_cells b2 6
      have p7 : w2.cell? ⟨pb, 7, none⟩ = some (.string T) := cell_of_cells b2 7
      have mp7 := mark_of_cells b2 7
      have p8 : w2.cell? ⟨pb, 8, none⟩ = some (.bool Fd) := cell_of_cells b2 8
      have mp8 := mark_of_cells b2 8
      have lo := lt_of_cells b1
      have lp := lt_of_cells b2
      have OPC : Hid (Opc c' i) := hidden ⟨k', W', md', ch', A', B', N', e0, e1, e2, e3, e4, e5, e6, h1, h2, h3, h4, h5, h6⟩
      have OLD : Hid (∀ j, j < i → Opc c' j) := hidden (fun j hj => by
        obtain ⟨a1, a2, a3, a4, a5, a6, a7, q0, q1, q2, q3, q4, q5, q6, q⟩ := HALL.out j hj
        rw [hc']
        exact ⟨a1, a2, a3, a4, a5, a6, a7, (set7_out c (i * 7) _ (.int .u8 k') (.int .i64 W') (.int .u8 md') (.bool ch') (.int .u64 A') (.int .u64 B') (.int .i64 N') (by omega)).trans q0, (set7_out c (i * 7) _ (.int .u8 k') (.int .i64 W') (.int .u8 md') (.bool ch') (.int .u64 A') (.int .u64 B') (.int .i64 N') (by omega)).trans q1, (set7_out c (i * 7) _ (.int .u8 k') (.int .i64 W') (.int .u8 md') (.bool ch') (.int .u64 A') (.int .u64 B') (.int .i64 N') (by omega)).trans q2, (set7_out c (i * 7) _ (.int .u8 k') (.int .i64 W') (.int .u8 md') (.bool ch') (.int .u64 A') (.int .u64 B') (.int .i64 N') (by omega)).trans q3, (set7_out c (i * 7) _ (.int .u8 k') (.int .i64 W') (.int .u8 md') (.bool ch') (.int .u64 A') (.int .u64 B') (.int .i64 N') (by omega)).trans q4, (set7_out c (i * 7) _ (.int .u8 k') (.int .i64 W') (.int .u8 md') (.bool ch') (.int .u64 A') (.int .u64 B') (.int .i64 N') (by omega)).trans q5, (set7_out c (i * 7) _ (.int .u8 k') (.int .i64 W') (.int .u8 md') (.bool ch') (.int .u64 A') (.int .u64 B') (.int .i64 N') (by omega)).trans q6, q⟩)
      have HC' : Hid (c'.size = n * 7) := hidden (by rw [hc', set7_size]; exact hcs)
      have PL := hidden (PLY.out (.agg #[.int .u8 k', .int .i64 W', .int .u8 md', .bool ch', .int .u64 A', .int .u64 B', .int .i64 N']) ⟨k', W', md', ch', A', B', N', rfl, h1, h2, h3, h4, h5, h6⟩ w2 hg)
      have B1 := hidden b1
      have B2 := hidden b2
      have HG2 := hidden hg
      clear b1 b2 hg e0 e1 e2 e3 e4 e5 e6 h1 h2 h3 h4 h5 h6 hc' HALL
      go_wp2_with (go_at_call 66; (with_reducible refine PL.out.mono ?_); rintro _ _ ⟨v2, rfl, ⟨P2, Wd2, I2, F2, S2, C2, O2, T2, Fd2, rfl, hP2⟩, x2, rfl⟩)
      have hb2 := (blk_set (blk_set (blk_set (blk_set (blk_set (blk_set (blk_set (blk_set (blk_set (blk_ext (x := x2) B2.out) 0 (.int .u64 P2)) 1 (.int .i64 Wd2)) 2 (.int .i64 I2)) 3 (.int .u8 F2)) 4 (.int .u8 S2)) 5 (.int .u8 C2)) 6 (.int .i8 O2)) 7 (.string T2)) 8 (.bool Fd2))
      have hall2 : ∀ j, j < i + 1 → Opc c' j := fun j hj => by
        rcases Nat.lt_or_ge j i with h | h
        · exact OLD.out j h
        · obtain rfl : j = i := by omega
          exact OPC.out
      refine ⟨⟨i + 1, c', #[.int .u64 P2, .int .i64 Wd2, .int .i64 I2, .int .u8 F2, .int .u8 S2, .int .u8 C2, .int .i8 O2, .string T2, .bool Fd2], rfl, by omega, HC'.out, ?_, by simpa using hb2, ⟨P2, Wd2, I2, F2, S2, C2, O2, T2, Fd2, rfl, hP2⟩, hall2, ((((((((((HG2.out.ext _).setCell (by exact hpl.out) _).setCell (by exact hpl.out) _).setCell (by exact hpl.out) _).setCell (by exact hpl.out) _).setCell (by exact hpl.out) _).setCell (by exact hpl.out) _).setCell (by exact hpl.out) _).setCell (by exact hpl.out) _).setCell (by exact hpl.out) _)⟩, by simp [intOf]; omega⟩
      rw [blk_far nop, blk_far nop, blk_far nop, blk_far nop, blk_far nop, blk_far nop, blk_far nop, blk_far nop, blk_far nop]
      exact blk_ext B1.out
    · have hie : i = n := by omega
      subst hie
      have HCO := hidden hco
      have HGI := hidden hgi
      clear hco hpo hgi
      go_wp2_with (fail)
      go_ret
      exact ⟨ob, c, rfl, HCO.out, HALL.out, HGI.out⟩
end Go.Proofs.Qxb6500680aGreatDoor
