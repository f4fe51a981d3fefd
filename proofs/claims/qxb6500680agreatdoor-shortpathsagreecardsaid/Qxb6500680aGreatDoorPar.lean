import Derived.Test.Qxb6500680aGreatDoorCur
namespace Go.Proofs.Qxb6500680aGreatDoor
open Go.RowKit Go.BigFrame
set_option linter.unusedSimpArgs false
attribute [local go_sem] ext_cell_if ext_frozen_if alloc_cell_if alloc_frozen_if ext_size ext_ext
/-- The cursor at a place, the format's copy in a block of its own, all in a world in which nothing else turned. -/
structure Ps (cb bx : Nat) (fm : Array Value) (s : ByteArray) (w0 w : World) (i : Nat) : Prop where
  le : i ≤ s.size
  cu : Cu cb s i w
  box : w.heap[bx]? = some (.cells fm 35)
  ne : bx ≠ cb
  gr : w0.grownBy w (some cb)
theorem Ps.ext {cb bx : Nat} {fm : Array Value} {s : ByteArray} {w0 w : World} {i : Nat} (h : Ps cb bx fm s w0 w i) (x : Nat → Array Obj × Nat) : Ps cb bx fm s w0 (ext w x) i := ⟨h.le, blk_ext h.cu, blk_ext h.box, h.ne, grown_trans h.gr (grown_ext _ _ _)⟩
theorem Ps.step {cb bx : Nat} {fm : Array Value} {s : ByteArray} {w0 w w' : World} {i : Nat} (h : Ps cb bx fm s w0 w i) (hk : CuOK cb s w w') : ∃ i', Ps cb bx fm s w0 w' i' := by
  obtain ⟨⟨i', hi', hc⟩, hg⟩ := hk
  exact ⟨i', hi', hc, (hg.block bx (lt_of_cells h.box) (by simpa using h.ne)).trans h.box, h.ne, grown_trans h.gr hg⟩
theorem Ps.set {cb bx : Nat} {fm : Array Value} {s : ByteArray} {w0 w : World} {i : Nat} (h : Ps cb bx fm s w0 w i) (j : Nat) (hj : j ≤ s.size) : Ps cb bx fm s w0 (w.setCell ⟨cb, 1, none⟩ (.int .i64 j)) j :=
  ⟨hj, by have h := blk_set h.cu 1 (.int .i64 (j : Int)); simpa [Cu] using h, (blk_far h.ne 1 _).trans h.box, h.ne, grown_trans h.gr (grown_set _ _ _)⟩
theorem Ps.done {cb bx : Nat} {fm : Array Value} {s : ByteArray} {w0 w : World} {i : Nat} (h : Ps cb bx fm s w0 w i) : CuOK cb s w0 w := ⟨⟨i, h.le, h.cu⟩, h.gr⟩
/-- What parseNaN and parseFinite answer. -/
def ParOK (cb : Nat) (s : ByteArray) (w : World) (e : Ending) (w' : World) : Prop := ∃ (v : Int) (er : Value), e = .returned (.tuple #[.int .u64 v, er]) ∧ InR .u64 v ∧ (er = .nilIface ∨ ErrV er) ∧ CuOK cb s w w'
set_option maxRecDepth 100000 in
set_option maxHeartbeats 4000000 in
theorem exponent_any (cb : Nat) (s : ByteArray) (i : Nat) (hs : s.size ≤ 100) (hi : i ≤ s.size) (w : World) (hc : Cu cb s i w) : Calls Tryz.prog 191 #[.pointer (some ⟨cb, 0, none⟩)] w (NumOK .i64 cb s w) := by
  have k0 : w.cell? ⟨cb, 0, none⟩ = some (.string s) := cell_of_cells hc 0
  have k1 : w.cell? ⟨cb, 1, none⟩ = some (.int .i64 i) := cell_of_cells hc 1
  have m1 := mark_of_cells hc 1
  have hlt := lt_of_cells hc
  have HC := hidden hc
  have LIT := hidden (fun (lit : ByteArray) (i : Nat) (w : World) (hl : lit.size ≤ 100) (hi : i ≤ s.size) (hc : Cu cb s i w) => literal_any cb s lit i hs hi hl w hc)
  have DEC := hidden (fun (i : Nat) (w : World) (hi : i ≤ s.size) (hc : Cu cb s i w) => decimal_any cb s i hs hi w hc)
  clear hc
  go_enter Tryz.func191, Tryz.ntmps191
  go_upto_block 0 with (fail)
  go_cut [5] (fun s5 wc => ∃ (nb : Bool) (i' : Nat), s5 = .bool nb ∧ i' ≤ s.size ∧ Cu cb s i' wc ∧ w.grownBy wc (some cb))
  case first =>
    clear k0 k1 m1 hlt
    go_upto_if 12 with (go_at_call 83; (with_reducible refine (LIT.out _ _ _ (by decide) hi HC.out).mono ?_); rintro _ w1 ⟨b1, rfl, ⟨i1, hi1, hc1⟩, hg1⟩)
    have HC1 := hidden hc1
    have HG1 := hidden hg1
    clear hc1 hg1
    cases b1
    · go_upto_if 15 with (go_at_call 83; (with_reducible refine (LIT.out _ _ _ (by decide) hi1 HC1.out).mono ?_); rintro _ w2 ⟨b2, rfl, ⟨i2, hi2, hc2⟩, hg2⟩)
      have HC2 := hidden hc2
      have HG2 := hidden (grown_trans HG1.out hg2)
      clear hc2 hg2
      cases b2
      · go_wp2_with (fail)
        go_ret2
        exact ⟨0, false, rfl, i64_in _ (by decide) (by decide), ⟨i2, hi2, HC2.out⟩, HG2.out⟩
      · go_wp2_with (fail)
        go_meet
        case rel => exact ⟨true, i2, rfl, hi2, HC2.out, HG2.out⟩
    · go_wp2_with (fail)
      go_meet
      case rel => exact ⟨false, i1, rfl, hi1, HC1.out, HG1.out⟩
  case rest =>
    obtain ⟨nb, i', rfl, hi', hc', hg'⟩ := hcut
    have HC' := hidden hc'
    have HG' := hidden hg'
    clear k0 k1 m1 hlt hc' hg'
    go_upto_region 8 with (go_at_call 218; (with_reducible refine (DEC.out _ _ hi' HC'.out).mono ?_); rintro _ w3 ⟨v, ok, rfl, hv, ⟨i3, hi3, hc3⟩, hg3⟩)
    have k1 : w3.cell? ⟨cb, 1, none⟩ = some (.int .i64 i3) := cell_of_cells hc3 1
    have m1 := mark_of_cells hc3 1
    have hlt := lt_of_cells hc3
    have HC3 := hidden hc3
    have HG3 := hidden (grown_trans HG'.out hg3)
    have HV := hidden hv
    clear hc3 hg3 hv
    have bad : Hid (CuOK cb s w (w3.setCell ⟨cb, 1, none⟩ (.int .i64 i))) := hidden ⟨⟨i, hi, by have h := blk_set HC3.out 1 (.int .i64 (i : Int)); simpa [Cu] using h⟩, grown_trans HG3.out (grown_set _ _ _)⟩
    obtain ⟨z, hz⟩ : ∃ z, (v == 0) = z := ⟨_, rfl⟩
    cases ok
    · go_wp2_with (fail)
      go_ret2
      exact ⟨0, false, rfl, i64_in _ (by decide) (by decide), bad.out⟩
    · cases nb
      · go_wp2_with (fail)
        go_ret2
        exact ⟨v, true, rfl, HV.out, ⟨i3, hi3, HC3.out⟩, HG3.out⟩
      · cases z
        · go_wp2_with (fail)
          go_ret2
          exact ⟨_, true, rfl, i64_in _ (wrap64_bd _).1 (wrap64_bd _).2, ⟨i3, hi3, HC3.out⟩, HG3.out⟩
        · go_wp2_with (fail)
          go_ret2
          exact ⟨0, false, rfl, i64_in _ (by decide) (by decide), bad.out⟩
set_option maxRecDepth 100000 in
set_option maxHeartbeats 4000000 in
theorem parseNaN_any {W E F : Nat} {MM FM EM HB BI EI XI : Int} {H PD : Nat} (fc : Fc W E F MM FM EM HB BI EI XI H PD) (cb : Nat) (s : ByteArray) (i : Nat) (hs : s.size ≤ 100) (hi : i ≤ s.size) (w : World) (hc : Cu cb s i w) : Calls Tryz.prog 86 #[.agg #[.int .u64 W, .int .u64 E, .int .u64 F], .pointer (some ⟨cb, 0, none⟩)] w (ParOK cb s w) := by
  have hcl := lt_of_cells hc
  obtain ⟨bx, hbx⟩ : ∃ bx, bx = w.heap.size := ⟨_, rfl⟩
  have T0 : Hid (Ps cb bx #[.int .u64 W, .int .u64 E, .int .u64 F] s w (w.alloc (.cells #[.int .u64 W, .int .u64 E, .int .u64 F] 35)) i) := hidden (by subst hbx; exact ⟨hi, blk_alloc hc, heap_new _ _, by omega, grown_alloc _ _ _⟩)
  have LIT := hidden (fun (lit : ByteArray) (i : Nat) (w : World) (hl : lit.size ≤ 100) (hi : i ≤ s.size) (hc : Cu cb s i w) => literal_any cb s lit i hs hi hl w hc)
  have FAIL := hidden (fun (r : ByteArray) (i : Nat) (w : World) (hc : Cu cb s i w) => fail_any cb s r i w hc)
  have HEX := hidden (fun (i : Nat) (w : World) (hi : i ≤ s.size) (hc : Cu cb s i w) => hex_any cb s i H hs hi (by have := fc.hH; omega) w hc)
  have C186 := hidden fc.c186
  have C156 := hidden fc.c156
  have C85 := hidden fc.c85
  clear fc hc hcl
  go_enter Tryz.func86, Tryz.ntmps86
  go_upto_region 1 with (fail)
  simp only [← hbx]
  refine wp_gen (fun w1 => Ps cb bx #[.int .u64 W, .int .u64 E, .int .u64 F] s w w1 i) T0.out ?_
  intro w1 t1
  clear hbx T0
  have T1 := hidden t1
  have k0 : w1.cell? ⟨cb, 0, none⟩ = some (.string s) := cell_of_cells t1.cu 0
  have k1 : w1.cell? ⟨cb, 1, none⟩ = some (.int .i64 i) := cell_of_cells t1.cu 1
  have m1 := mark_of_cells t1.cu 1
  have hlt := lt_of_cells t1.cu
  have f0 : w1.cell? ⟨bx, 0, none⟩ = some (.int .u64 W) := cell_of_cells t1.box 0
  have f1 : w1.cell? ⟨bx, 1, none⟩ = some (.int .u64 E) := cell_of_cells t1.box 1
  have f2 : w1.cell? ⟨bx, 2, none⟩ = some (.int .u64 F) := cell_of_cells t1.box 2
  have hbl := lt_of_cells t1.box
  have hle := t1.le
  clear t1
  go_upto_if 21 with (first | (go_at_call 186; (with_reducible refine (C186.out _).mono ?_); rintro _ _ ⟨rfl, x2, rfl⟩) | (go_at_call 190; (with_reducible refine (HEX.out _ _ hle (T1.out.ext _).cu).mono ?_); rintro _ w2 ⟨v, b2, rfl, hv, hk⟩; obtain ⟨i2, t2⟩ := (T1.out.ext _).step hk; have HV := hidden hv; clear hk hv))
  clear k0 k1 m1 hlt f0 f1 f2 hbl hle
  have T2 := hidden t2
  have k0 : w2.cell? ⟨cb, 0, none⟩ = some (.string s) := cell_of_cells t2.cu 0
  have k1 : w2.cell? ⟨cb, 1, none⟩ = some (.int .i64 i2) := cell_of_cells t2.cu 1
  have m1 := mark_of_cells t2.cu 1
  have hlt := lt_of_cells t2.cu
  have f0 : w2.cell? ⟨bx, 0, none⟩ = some (.int .u64 W) := cell_of_cells t2.box 0
  have f1 : w2.cell? ⟨bx, 1, none⟩ = some (.int .u64 E) := cell_of_cells t2.box 1
  have f2 : w2.cell? ⟨bx, 2, none⟩ = some (.int .u64 F) := cell_of_cells t2.box 2
  have hbl := lt_of_cells t2.box
  have hle := t2.le
  clear t2
  cases b2
  · go_wp2_with (go_at_call 84; (with_reducible refine (FAIL.out _ _ _ T2.out.cu).mono ?_); rintro _ _ ⟨er, rfl, her, x9, rfl⟩)
    go_ret2
    exact ⟨0, er, rfl, u64_in _ (by decide) (by decide), .inr her, (T2.out.ext _).done⟩
  · obtain ⟨z, hz⟩ : ∃ z, (v == 0) = z := ⟨_, rfl⟩
    cases z
    · by_cases c1 : FM < v
      · have d1 : decide (FM < v) = true := by simpa using c1
        go_wp2_with (first | (go_at_call 156; (with_reducible refine (C156.out _).mono ?_); rintro _ _ ⟨rfl, x3, rfl⟩) | (go_at_call 84; (with_reducible refine (FAIL.out _ _ _ ((T2.out.ext _).set i hi).cu).mono ?_); rintro _ _ ⟨er, rfl, her, x9, rfl⟩))
        go_ret2
        exact ⟨0, er, rfl, u64_in _ (by decide) (by decide), .inr her, (((T2.out.ext _).set i hi).ext _).done⟩
      · have d1 : decide (FM < v) = false := by simpa using c1
        go_upto_if 40 with (first | (go_at_call 156; (with_reducible refine (C156.out _).mono ?_); rintro _ _ ⟨rfl, x3, rfl⟩) | (go_at_call 83; (with_reducible refine (LIT.out _ _ _ (by decide) hle (T2.out.ext _).cu).mono ?_); rintro _ w3 ⟨b3, rfl, hk⟩; obtain ⟨i3, t3⟩ := (T2.out.ext _).step hk; clear hk))
        clear k0 k1 m1 hlt f0 f1 f2 hbl hle
        have T3 := hidden t3
        have k0 : w3.cell? ⟨cb, 0, none⟩ = some (.string s) := cell_of_cells t3.cu 0
        have k1 : w3.cell? ⟨cb, 1, none⟩ = some (.int .i64 i3) := cell_of_cells t3.cu 1
        have m1 := mark_of_cells t3.cu 1
        have hlt := lt_of_cells t3.cu
        have f0 : w3.cell? ⟨bx, 0, none⟩ = some (.int .u64 W) := cell_of_cells t3.box 0
        have f1 : w3.cell? ⟨bx, 1, none⟩ = some (.int .u64 E) := cell_of_cells t3.box 1
        have f2 : w3.cell? ⟨bx, 2, none⟩ = some (.int .u64 F) := cell_of_cells t3.box 2
        have hbl := lt_of_cells t3.box
        have hle := t3.le
        clear t3
        cases b3
        · go_wp2_with (go_at_call 84; (with_reducible refine (FAIL.out _ _ _ T3.out.cu).mono ?_); rintro _ _ ⟨er, rfl, her, x9, rfl⟩)
          go_ret2
          exact ⟨0, er, rfl, u64_in _ (by decide) (by decide), .inr her, (T3.out.ext _).done⟩
        · go_wp2_with (go_at_call 85; (with_reducible refine (C85.out _).mono ?_); rintro _ _ ⟨rfl, x4, rfl⟩)
          go_ret2
          exact ⟨_, .nilIface, rfl, bits_in _ _ _, .inl rfl, (T3.out.ext _).done⟩
    · go_wp2_with (go_at_call 84; (with_reducible refine (FAIL.out _ _ _ (T2.out.set i hi).cu).mono ?_); rintro _ _ ⟨er, rfl, her, x9, rfl⟩)
      go_ret2
      exact ⟨0, er, rfl, u64_in _ (by decide) (by decide), .inr her, ((T2.out.set i hi).ext _).done⟩
theorem shr_in2 (v : Int) (k : Nat) (hv : InR .u64 v) : InR .u64 (v / 2 ^ k) := by
  have h := u64r hv
  have h1 : 0 ≤ v / 2 ^ k := Int.ediv_nonneg h.1 (Int.pow_nonneg (by decide))
  have h2 : v / 2 ^ k ≤ v := Int.ediv_le_self _ h.1
  exact u64_in _ h1 (by omega)
set_option maxRecDepth 100000 in
set_option maxHeartbeats 4000000 in
theorem parseFinite_any {W E F : Nat} {MM FM EM HB BI EI XI : Int} {H PD : Nat} (fc : Fc W E F MM FM EM HB BI EI XI H PD) (cb : Nat) (s : ByteArray) (i : Nat) (hs : s.size ≤ 100) (hi : i ≤ s.size) (w : World) (hc : Cu cb s i w) : Calls Tryz.prog 87 #[.agg #[.int .u64 W, .int .u64 E, .int .u64 F], .pointer (some ⟨cb, 0, none⟩)] w (ParOK cb s w) := by
  have hcl := lt_of_cells hc
  obtain ⟨bx, hbx⟩ : ∃ bx, bx = w.heap.size := ⟨_, rfl⟩
  have T0 : Hid (Ps cb bx #[.int .u64 W, .int .u64 E, .int .u64 F] s w (w.alloc (.cells #[.int .u64 W, .int .u64 E, .int .u64 F] 35)) i) := hidden (by subst hbx; exact ⟨hi, blk_alloc hc, heap_new _ _, by omega, grown_alloc _ _ _⟩)
  have LIT := hidden (fun (lit : ByteArray) (i : Nat) (w : World) (hl : lit.size ≤ 100) (hi : i ≤ s.size) (hc : Cu cb s i w) => literal_any cb s lit i hs hi hl w hc)
  have FAIL := hidden (fun (r : ByteArray) (i : Nat) (w : World) (hc : Cu cb s i w) => fail_any cb s r i w hc)
  have HEX := hidden (fun (i : Nat) (w : World) (hi : i ≤ s.size) (hc : Cu cb s i w) => hex_any cb s i H hs hi (by have := fc.hH; omega) w hc)
  have EXP := hidden (fun (i : Nat) (w : World) (hi : i ≤ s.size) (hc : Cu cb s i w) => exponent_any cb s i hs hi w hc)
  have C186 := hidden fc.c186
  have C188 := hidden fc.c188
  have C187 := hidden fc.c187
  have C192 := hidden fc.c192
  have C145 := hidden fc.c145
  clear fc hc hcl
  go_enter Tryz.func87, Tryz.ntmps87
  go_upto_region 1 with (fail)
  simp only [← hbx]
  refine wp_gen (fun w1 => Ps cb bx #[.int .u64 W, .int .u64 E, .int .u64 F] s w w1 i) T0.out ?_
  intro w1 t1
  clear hbx T0
  have T1 := hidden t1
  have k0 : w1.cell? ⟨cb, 0, none⟩ = some (.string s) := cell_of_cells t1.cu 0
  have k1 : w1.cell? ⟨cb, 1, none⟩ = some (.int .i64 i) := cell_of_cells t1.cu 1
  have m1 := mark_of_cells t1.cu 1
  have hlt := lt_of_cells t1.cu
  have f0 : w1.cell? ⟨bx, 0, none⟩ = some (.int .u64 W) := cell_of_cells t1.box 0
  have f1 : w1.cell? ⟨bx, 1, none⟩ = some (.int .u64 E) := cell_of_cells t1.box 1
  have f2 : w1.cell? ⟨bx, 2, none⟩ = some (.int .u64 F) := cell_of_cells t1.box 2
  have hbl := lt_of_cells t1.box
  have hle := t1.le
  clear t1
  go_upto_block 0 with (fail)
  go_cut [6] (fun s6 wc => ∃ (nb : Bool) (i' : Nat), s6 = .bool nb ∧ Ps cb bx #[.int .u64 W, .int .u64 E, .int .u64 F] s w wc i')
  case first =>
    go_upto_if 15 with (go_at_call 83; (with_reducible refine (LIT.out _ _ _ (by decide) hle T1.out.cu).mono ?_); rintro _ w2 ⟨b2, rfl, hk⟩; obtain ⟨i2, t2⟩ := T1.out.step hk; clear hk)
    clear k0 k1 m1 hlt f0 f1 f2 hbl hle
    have T2 := hidden t2
    have k0 : w2.cell? ⟨cb, 0, none⟩ = some (.string s) := cell_of_cells t2.cu 0
    have k1 : w2.cell? ⟨cb, 1, none⟩ = some (.int .i64 i2) := cell_of_cells t2.cu 1
    have m1 := mark_of_cells t2.cu 1
    have hlt := lt_of_cells t2.cu
    have f0 : w2.cell? ⟨bx, 0, none⟩ = some (.int .u64 W) := cell_of_cells t2.box 0
    have f1 : w2.cell? ⟨bx, 1, none⟩ = some (.int .u64 E) := cell_of_cells t2.box 1
    have f2 : w2.cell? ⟨bx, 2, none⟩ = some (.int .u64 F) := cell_of_cells t2.box 2
    have hbl := lt_of_cells t2.box
    have hle := t2.le
    clear t2
    cases b2
    · go_upto_if 18 with (go_at_call 83; (with_reducible refine (LIT.out _ _ _ (by decide) hle T2.out.cu).mono ?_); rintro _ w3 ⟨b3, rfl, hk⟩; obtain ⟨i3, t3⟩ := T2.out.step hk; clear hk)
      clear k0 k1 m1 hlt f0 f1 f2 hbl hle
      have T3 := hidden t3
      have k0 : w3.cell? ⟨cb, 0, none⟩ = some (.string s) := cell_of_cells t3.cu 0
      have k1 : w3.cell? ⟨cb, 1, none⟩ = some (.int .i64 i3) := cell_of_cells t3.cu 1
      have m1 := mark_of_cells t3.cu 1
      have hlt := lt_of_cells t3.cu
      have f0 : w3.cell? ⟨bx, 0, none⟩ = some (.int .u64 W) := cell_of_cells t3.box 0
      have f1 : w3.cell? ⟨bx, 1, none⟩ = some (.int .u64 E) := cell_of_cells t3.box 1
      have f2 : w3.cell? ⟨bx, 2, none⟩ = some (.int .u64 F) := cell_of_cells t3.box 2
      have hbl := lt_of_cells t3.box
      have hle := t3.le
      clear t3
      cases b3
      · go_wp2_with (go_at_call 84; (with_reducible refine (FAIL.out _ _ _ T3.out.cu).mono ?_); rintro _ _ ⟨er, rfl, her, x9, rfl⟩)
        go_ret2
        exact ⟨0, er, rfl, u64_in _ (by decide) (by decide), .inr her, (T3.out.ext _).done⟩
      · go_wp2_with (fail)
        go_meet
        case rel => exact ⟨true, i3, rfl, T3.out⟩
    · go_wp2_with (fail)
      go_meet
      case rel => exact ⟨false, i2, rfl, T2.out⟩
  case rest =>
    obtain ⟨nb, i4, rfl, t4⟩ := hcut
    clear k0 k1 m1 hlt f0 f1 f2 hbl hle
    have T4 := hidden t4
    have k0 : wc.cell? ⟨cb, 0, none⟩ = some (.string s) := cell_of_cells t4.cu 0
    have k1 : wc.cell? ⟨cb, 1, none⟩ = some (.int .i64 i4) := cell_of_cells t4.cu 1
    have m1 := mark_of_cells t4.cu 1
    have hlt := lt_of_cells t4.cu
    have f0 : wc.cell? ⟨bx, 0, none⟩ = some (.int .u64 W) := cell_of_cells t4.box 0
    have f1 : wc.cell? ⟨bx, 1, none⟩ = some (.int .u64 E) := cell_of_cells t4.box 1
    have f2 : wc.cell? ⟨bx, 2, none⟩ = some (.int .u64 F) := cell_of_cells t4.box 2
    have hbl := lt_of_cells t4.box
    have hle := t4.le
    clear t4
    have hi4 := hle
    go_upto_if 33 with (first | (go_at_call 186; (with_reducible refine (C186.out _).mono ?_); rintro _ _ ⟨rfl, x5, rfl⟩) | (go_at_call 190; (with_reducible refine (HEX.out _ _ hle (T4.out.ext _).cu).mono ?_); rintro _ w5 ⟨v, b5, rfl, hv, hk⟩; obtain ⟨i5, t5⟩ := (T4.out.ext _).step hk; have HV := hidden hv; clear hk hv))
    clear k0 k1 m1 hlt f0 f1 f2 hbl hle
    have T5 := hidden t5
    have k0 : w5.cell? ⟨cb, 0, none⟩ = some (.string s) := cell_of_cells t5.cu 0
    have k1 : w5.cell? ⟨cb, 1, none⟩ = some (.int .i64 i5) := cell_of_cells t5.cu 1
    have m1 := mark_of_cells t5.cu 1
    have hlt := lt_of_cells t5.cu
    have f0 : w5.cell? ⟨bx, 0, none⟩ = some (.int .u64 W) := cell_of_cells t5.box 0
    have f1 : w5.cell? ⟨bx, 1, none⟩ = some (.int .u64 E) := cell_of_cells t5.box 1
    have f2 : w5.cell? ⟨bx, 2, none⟩ = some (.int .u64 F) := cell_of_cells t5.box 2
    have hbl := lt_of_cells t5.box
    have hle := t5.le
    clear t5
    cases b5
    · go_wp2_with (go_at_call 84; (with_reducible refine (FAIL.out _ _ _ T5.out.cu).mono ?_); rintro _ _ ⟨er, rfl, her, x9, rfl⟩)
      go_ret2
      exact ⟨0, er, rfl, u64_in _ (by decide) (by decide), .inr her, (T5.out.ext _).done⟩
    · go_upto_if 43 with (go_at_call 188; (with_reducible refine (C188.out _).mono ?_); rintro _ _ ⟨rfl, x6, rfl⟩)
      generalize (bits BinOp.and IntKind.u64 v (IntKind.u64.wrap (IntKind.u64.wrap (2 ^ min PD 64) - 1)) != 0) = z1
      cases z1
      · have HFR := hidden (shr_in2 v (min PD 64) HV.out)
        obtain ⟨fr, hfr⟩ : ∃ fr, v / 2 ^ min PD 64 = fr := ⟨_, rfl⟩
        simp only [hfr] at HFR
        obtain ⟨z2, hz2⟩ : ∃ z, (fr == 0) = z := ⟨_, rfl⟩
        cases nb
        · cases z2
          · go_upto_region 18 with (fail)
            go_upto_if 67 with (go_at_call 83; (with_reducible refine (LIT.out _ _ _ (by decide) hle (T5.out.ext _).cu).mono ?_); rintro _ w7 ⟨b7, rfl, hk⟩; obtain ⟨i7, t7⟩ := (T5.out.ext _).step hk; clear hk)
            clear k0 k1 m1 hlt f0 f1 f2 hbl hle
            have T7 := hidden t7
            have k0 : w7.cell? ⟨cb, 0, none⟩ = some (.string s) := cell_of_cells t7.cu 0
            have k1 : w7.cell? ⟨cb, 1, none⟩ = some (.int .i64 i7) := cell_of_cells t7.cu 1
            have m1 := mark_of_cells t7.cu 1
            have hlt := lt_of_cells t7.cu
            have f0 : w7.cell? ⟨bx, 0, none⟩ = some (.int .u64 W) := cell_of_cells t7.box 0
            have f1 : w7.cell? ⟨bx, 1, none⟩ = some (.int .u64 E) := cell_of_cells t7.box 1
            have f2 : w7.cell? ⟨bx, 2, none⟩ = some (.int .u64 F) := cell_of_cells t7.box 2
            have hbl := lt_of_cells t7.box
            have hle := t7.le
            clear t7
            cases b7
            · go_wp2_with (go_at_call 84; (with_reducible refine (FAIL.out _ _ _ T7.out.cu).mono ?_); rintro _ _ ⟨er, rfl, her, x9, rfl⟩)
              go_ret2
              exact ⟨0, er, rfl, u64_in _ (by decide) (by decide), .inr her, (T7.out.ext _).done⟩
            · go_upto_if 80 with (go_at_call 191; (with_reducible refine (EXP.out _ _ hle T7.out.cu).mono ?_); rintro _ w8 ⟨ex, b8, rfl, hex, hk⟩; obtain ⟨i8, t8⟩ := T7.out.step hk; have HE := hidden hex; clear hk hex)
              have hi7 := hle
              clear k0 k1 m1 hlt f0 f1 f2 hbl hle
              have T8 := hidden t8
              have k0 : w8.cell? ⟨cb, 0, none⟩ = some (.string s) := cell_of_cells t8.cu 0
              have k1 : w8.cell? ⟨cb, 1, none⟩ = some (.int .i64 i8) := cell_of_cells t8.cu 1
              have m1 := mark_of_cells t8.cu 1
              have hlt := lt_of_cells t8.cu
              have f0 : w8.cell? ⟨bx, 0, none⟩ = some (.int .u64 W) := cell_of_cells t8.box 0
              have f1 : w8.cell? ⟨bx, 1, none⟩ = some (.int .u64 E) := cell_of_cells t8.box 1
              have f2 : w8.cell? ⟨bx, 2, none⟩ = some (.int .u64 F) := cell_of_cells t8.box 2
              have hbl := lt_of_cells t8.box
              have hle := t8.le
              clear t8
              cases b8
              · go_wp2_with (go_at_call 84; (with_reducible refine (FAIL.out _ _ _ T8.out.cu).mono ?_); rintro _ _ ⟨er, rfl, her, x9, rfl⟩)
                go_ret2
                exact ⟨0, er, rfl, u64_in _ (by decide) (by decide), .inr her, (T8.out.ext _).done⟩
              · obtain ⟨z3, hz3⟩ : ∃ z, (ex != EI) = z := ⟨_, rfl⟩
                cases z3
                · go_wp2_with (go_at_call 187; (with_reducible refine (C187.out _).mono ?_); rintro _ _ ⟨rfl, x10, rfl⟩)
                  go_ret2
                  exact ⟨_, .nilIface, rfl, HFR.out, .inl rfl, (T8.out.ext _).done⟩
                · go_wp2_with (first | (go_at_call 187; (with_reducible refine (C187.out _).mono ?_); rintro _ _ ⟨rfl, x10, rfl⟩) | (go_at_call 84; (with_reducible refine (FAIL.out _ _ _ ((T8.out.ext _).set i7 hi7).cu).mono ?_); rintro _ _ ⟨er, rfl, her, x9, rfl⟩))
                  go_ret2
                  exact ⟨0, er, rfl, u64_in _ (by decide) (by decide), .inr her, (((T8.out.ext _).set i7 hi7).ext _).done⟩
          · go_wp2_with (go_at_call 84; (with_reducible refine (FAIL.out _ _ _ ((T5.out.ext _).set i4 hi4).cu).mono ?_); rintro _ _ ⟨er, rfl, her, x9, rfl⟩)
            go_ret2
            exact ⟨0, er, rfl, u64_in _ (by decide) (by decide), .inr her, (((T5.out.ext _).set i4 hi4).ext _).done⟩
        · go_upto_region 18 with (fail)
          go_upto_if 67 with (go_at_call 83; (with_reducible refine (LIT.out _ _ _ (by decide) hle (T5.out.ext _).cu).mono ?_); rintro _ w7 ⟨b7, rfl, hk⟩; obtain ⟨i7, t7⟩ := (T5.out.ext _).step hk; clear hk)
          clear k0 k1 m1 hlt f0 f1 f2 hbl hle
          have T7 := hidden t7
          have k0 : w7.cell? ⟨cb, 0, none⟩ = some (.string s) := cell_of_cells t7.cu 0
          have k1 : w7.cell? ⟨cb, 1, none⟩ = some (.int .i64 i7) := cell_of_cells t7.cu 1
          have m1 := mark_of_cells t7.cu 1
          have hlt := lt_of_cells t7.cu
          have f0 : w7.cell? ⟨bx, 0, none⟩ = some (.int .u64 W) := cell_of_cells t7.box 0
          have f1 : w7.cell? ⟨bx, 1, none⟩ = some (.int .u64 E) := cell_of_cells t7.box 1
          have f2 : w7.cell? ⟨bx, 2, none⟩ = some (.int .u64 F) := cell_of_cells t7.box 2
          have hbl := lt_of_cells t7.box
          have hle := t7.le
          clear t7
          cases b7
          · go_wp2_with (go_at_call 84; (with_reducible refine (FAIL.out _ _ _ T7.out.cu).mono ?_); rintro _ _ ⟨er, rfl, her, x9, rfl⟩)
            go_ret2
            exact ⟨0, er, rfl, u64_in _ (by decide) (by decide), .inr her, (T7.out.ext _).done⟩
          · go_upto_if 80 with (go_at_call 191; (with_reducible refine (EXP.out _ _ hle T7.out.cu).mono ?_); rintro _ w8 ⟨ex, b8, rfl, hex, hk⟩; obtain ⟨i8, t8⟩ := T7.out.step hk; have HE := hidden hex; clear hk hex)
            have hi7 := hle
            clear k0 k1 m1 hlt f0 f1 f2 hbl hle
            have T8 := hidden t8
            have k0 : w8.cell? ⟨cb, 0, none⟩ = some (.string s) := cell_of_cells t8.cu 0
            have k1 : w8.cell? ⟨cb, 1, none⟩ = some (.int .i64 i8) := cell_of_cells t8.cu 1
            have m1 := mark_of_cells t8.cu 1
            have hlt := lt_of_cells t8.cu
            have f0 : w8.cell? ⟨bx, 0, none⟩ = some (.int .u64 W) := cell_of_cells t8.box 0
            have f1 : w8.cell? ⟨bx, 1, none⟩ = some (.int .u64 E) := cell_of_cells t8.box 1
            have f2 : w8.cell? ⟨bx, 2, none⟩ = some (.int .u64 F) := cell_of_cells t8.box 2
            have hbl := lt_of_cells t8.box
            have hle := t8.le
            clear t8
            cases b8
            · go_wp2_with (go_at_call 84; (with_reducible refine (FAIL.out _ _ _ T8.out.cu).mono ?_); rintro _ _ ⟨er, rfl, her, x9, rfl⟩)
              go_ret2
              exact ⟨0, er, rfl, u64_in _ (by decide) (by decide), .inr her, (T8.out.ext _).done⟩
            · by_cases c3 : ex < EI
              · have d3 : decide (ex < EI) = true := by simpa using c3
                go_wp2_with (first | (go_at_call 187; (with_reducible refine (C187.out _).mono ?_); rintro _ _ ⟨rfl, x10, rfl⟩) | (go_at_call 84; (with_reducible refine (FAIL.out _ _ _ ((T8.out.ext _).set i7 hi7).cu).mono ?_); rintro _ _ ⟨er, rfl, her, x9, rfl⟩))
                go_ret2
                exact ⟨0, er, rfl, u64_in _ (by decide) (by decide), .inr her, (((T8.out.ext _).set i7 hi7).ext _).done⟩
              have d3 : decide (ex < EI) = false := by simpa using c3
              by_cases c4 : XI < ex
              · have d4 : decide (XI < ex) = true := by simpa using c4
                go_wp2_with (first | (go_at_call 187; (with_reducible refine (C187.out _).mono ?_); rintro _ _ ⟨rfl, x10, rfl⟩) | (go_at_call 192; (with_reducible refine (C192.out _).mono ?_); rintro _ _ ⟨rfl, x11, rfl⟩) | (go_at_call 84; (with_reducible refine (FAIL.out _ _ _ ((T8.out.ext _).set i7 hi7).cu).mono ?_); rintro _ _ ⟨er, rfl, her, x9, rfl⟩))
                go_ret2
                exact ⟨0, er, rfl, u64_in _ (by decide) (by decide), .inr her, (((T8.out.ext _).set i7 hi7).ext _).done⟩
              have d4 : decide (XI < ex) = false := by simpa using c4
              go_upto_region 32 with (first | (go_at_call 187; (with_reducible refine (C187.out _).mono ?_); rintro _ _ ⟨rfl, x10, rfl⟩) | (go_at_call 192; (with_reducible refine (C192.out _).mono ?_); rintro _ _ ⟨rfl, x11, rfl⟩))
              refine wp_region_ext (by kernel_rfl) (by kernel_rfl) ?_
              repeat (go_big_quiet_step ((go_at_call 145; first | with_reducible exact Calls_ext (C145.out _) | with_reducible exact Calls_ext2 (C145.out _))))
              refine wpQuiet_nil ?_
              rintro w12 ⟨x12, rfl⟩
              go_wp2_with (fail)
              go_ret2
              exact ⟨_, .nilIface, rfl, bits_in _ _ _, .inl rfl, ((T8.out.ext _).ext _).done⟩
      · go_wp2_with (go_at_call 84; (with_reducible refine (FAIL.out _ _ _ ((T5.out.ext _).set i4 hi4).cu).mono ?_); rintro _ _ ⟨er, rfl, her, x9, rfl⟩)
        go_ret2
        exact ⟨0, er, rfl, u64_in _ (by decide) (by decide), .inr her, (((T5.out.ext _).set i4 hi4).ext _).done⟩
end Go.Proofs.Qxb6500680aGreatDoor
