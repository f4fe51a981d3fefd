import Derived.Test.Qxb6500680aGreatDoorPar
namespace Go.Proofs.Qxb6500680aGreatDoor
open Go.RowKit Go.BigFrame
set_option linter.unusedSimpArgs false
attribute [local go_sem] ext_cell_if ext_frozen_if alloc_cell_if alloc_frozen_if ext_size ext_ext
/-- What ParseText answers. -/
def PtOK (w : World) (e : Ending) (w' : World) : Prop := ∃ (v : Int) (er : Value), e = .returned (.tuple #[.int .u64 v, er]) ∧ InR .u64 v ∧ (er = .nilIface ∨ ErrV er) ∧ ∃ x, w' = ext w x
set_option maxRecDepth 100000 in
set_option maxHeartbeats 4000000 in
theorem parseText_any {W E F : Nat} {MM FM EM HB BI EI XI : Int} {H PD : Nat} (fc : Fc W E F MM FM EM HB BI EI XI H PD) (hem : InR .u64 EM)
    (c88 : ∀ (m : Int) (b : Bool), InR .u64 m → ∃ r, InR .u64 r ∧ ∀ w, Calls Tryz.prog 88 #[.agg #[.int .u64 W, .int .u64 E, .int .u64 F], .int .u64 m, .bool b] w fun e w' => e = .returned (.int .u64 r) ∧ ∃ x, w' = ext w x)
    (s : ByteArray) (hs : s.size ≤ 100) (w : World) : Calls Tryz.prog 17 #[.agg #[.int .u64 W, .int .u64 E, .int .u64 F], .string s] w (PtOK w) := by
  obtain ⟨bx, hbx⟩ : ∃ bx, bx = w.heap.size := ⟨_, rfl⟩
  obtain ⟨cb, hcb⟩ : ∃ cb, cb = bx + 1 := ⟨_, rfl⟩
  obtain ⟨w0, hw0⟩ : ∃ w0, w0 = (w.alloc (.cells #[.int .u64 W, .int .u64 E, .int .u64 F] 35)).alloc (.cells #[.string s, .int .i64 0] 126) := ⟨_, rfl⟩
  have T0 : Hid (Ps cb bx #[.int .u64 W, .int .u64 E, .int .u64 F] s w0 w0 0) := hidden (by
    subst hbx
    have e : w.heap.size + 1 = (w.alloc (.cells #[.int .u64 W, .int .u64 E, .int .u64 F] 35)).heap.size := by simp
    refine ⟨by omega, ?_, ?_, by omega, grown_refl _ _⟩
    · rw [hw0, hcb, e]
      exact heap_new _ _
    · rw [hw0]
      exact blk_alloc (heap_new _ _))
  have fin : Hid (∀ wN i, Ps cb bx #[.int .u64 W, .int .u64 E, .int .u64 F] s w0 wN i → ∃ x, wN = ext w x) := hidden (fun wN i h => by
    have g0 : Gr w.heap.size w w0 := by rw [hw0]; exact ((Gr.refl w).alloc _).alloc _
    exact Gr.of (g0.grown h.gr (by intro k hk; simp at hk; omega)))
  have LIT := hidden (fun (lit : ByteArray) (i : Nat) (w : World) (hl : lit.size ≤ 100) (hi : i ≤ s.size) (hc : Cu cb s i w) => literal_any cb s lit i hs hi hl w hc)
  have FAIL := hidden (fun (r : ByteArray) (i : Nat) (w : World) (hc : Cu cb s i w) => fail_any cb s r i w hc)
  have PN := hidden (fun (i : Nat) (w : World) (hi : i ≤ s.size) (hc : Cu cb s i w) => parseNaN_any fc cb s i hs hi w hc)
  have PF := hidden (fun (i : Nat) (w : World) (hi : i ≤ s.size) (hc : Cu cb s i w) => parseFinite_any fc cb s i hs hi w hc)
  have C85 := hidden fc.c85
  have C88 := hidden c88
  have HEM := hidden hem
  clear fc c88 hem
  go_enter Tryz.func17, Tryz.ntmps17
  go_upto_block 0 with (fail)
  simp only [← hw0]
  simp only [← hbx, ← hcb]
  refine wp_gen (fun w1 => Ps cb bx #[.int .u64 W, .int .u64 E, .int .u64 F] s w0 w1 0) T0.out ?_
  intro w1 t1
  clear T0 hw0 hcb hbx
  have T1 := hidden t1
  have k0 : w1.cell? ⟨cb, 0, none⟩ = some (.string s) := cell_of_cells t1.cu 0
  have k1 : w1.cell? ⟨cb, 1, none⟩ = some (.int .i64 (0 : Nat)) := cell_of_cells t1.cu 1
  have m1 := mark_of_cells t1.cu 1
  have hlt := lt_of_cells t1.cu
  have f0 : w1.cell? ⟨bx, 0, none⟩ = some (.int .u64 W) := cell_of_cells t1.box 0
  have f1 : w1.cell? ⟨bx, 1, none⟩ = some (.int .u64 E) := cell_of_cells t1.box 1
  have f2 : w1.cell? ⟨bx, 2, none⟩ = some (.int .u64 F) := cell_of_cells t1.box 2
  have hbl := lt_of_cells t1.box
  have hle := t1.le
  clear t1
  go_cut [7] (fun s7 wc => ∃ (nb : Bool) (i' : Nat), s7 = .bool nb ∧ Ps cb bx #[.int .u64 W, .int .u64 E, .int .u64 F] s w0 wc i')
  case first =>
    go_upto_if 15 with (go_at_call 83; (with_reducible refine (LIT.out _ _ _ (by decide) hle T1.out.cu).mono ?_); rintro _ w2 ⟨b2, rfl, hk⟩; obtain ⟨i2, t2⟩ := T1.out.step hk; clear hk)
    clear k0 k1 m1 hlt f0 f1 f2 hbl hle
    have T2 := hidden t2
    have k0 : w2.cell? ⟨cb, 0, none⟩ = some (.string s) := cell_of_cells t2.cu 0
    have k1 : w2.cell? ⟨cb, 1, none⟩ = some (.int .i64 i2) := cell_of_cells t2.cu 1
    have m1 := mark_of_cells t2.cu 1
    have hlt := lt_of_cells t2.cu
    have f0 : w2.cell? ⟨bx, 0, none⟩ = some (.int .u64 W) := cell_of_cells t2.box 0
    have f1 : w2.cell? ⟨bx, 1, none⟩ = some (.int .u64 E) := cell_of_cells t2.box 1
    have f2 : w2.cell? ⟨bx, 2, none⟩ = some (.int .u64 F) := cell_of_cells t2.box 2
    have hbl := lt_of_cells t2.box
    have hle := t2.le
    clear t2
    cases b2
    · go_upto_if 18 with (go_at_call 83; (with_reducible refine (LIT.out _ _ _ (by decide) hle T2.out.cu).mono ?_); rintro _ w3 ⟨b3, rfl, hk⟩; obtain ⟨i3, t3⟩ := T2.out.step hk; clear hk)
      clear k0 k1 m1 hlt f0 f1 f2 hbl hle
      have T3 := hidden t3
      have k0 : w3.cell? ⟨cb, 0, none⟩ = some (.string s) := cell_of_cells t3.cu 0
      have k1 : w3.cell? ⟨cb, 1, none⟩ = some (.int .i64 i3) := cell_of_cells t3.cu 1
      have m1 := mark_of_cells t3.cu 1
      have hlt := lt_of_cells t3.cu
      have f0 : w3.cell? ⟨bx, 0, none⟩ = some (.int .u64 W) := cell_of_cells t3.box 0
      have f1 : w3.cell? ⟨bx, 1, none⟩ = some (.int .u64 E) := cell_of_cells t3.box 1
      have f2 : w3.cell? ⟨bx, 2, none⟩ = some (.int .u64 F) := cell_of_cells t3.box 2
      have hbl := lt_of_cells t3.box
      have hle := t3.le
      clear t3
      cases b3
      · go_wp2_with (go_at_call 84; (with_reducible refine (FAIL.out _ _ _ T3.out.cu).mono ?_); rintro _ _ ⟨er, rfl, her, x9, rfl⟩)
        go_ret2
        exact ⟨0, er, rfl, u64_in _ (by decide) (by decide), .inr her, fin.out _ _ (T3.out.ext _)⟩
      · go_wp2_with (fail)
        go_meet
        case rel => exact ⟨true, i3, rfl, T3.out⟩
    · go_wp2_with (fail)
      go_meet
      case rel => exact ⟨false, i2, rfl, T2.out⟩
  case rest =>
    obtain ⟨nb, i4, rfl, t4⟩ := hcut
    clear k0 k1 m1 hlt f0 f1 f2 hbl hle
    have T4 := hidden t4
    have k0 : wc.cell? ⟨cb, 0, none⟩ = some (.string s) := cell_of_cells t4.cu 0
    have k1 : wc.cell? ⟨cb, 1, none⟩ = some (.int .i64 i4) := cell_of_cells t4.cu 1
    have m1 := mark_of_cells t4.cu 1
    have hlt := lt_of_cells t4.cu
    have f0 : wc.cell? ⟨bx, 0, none⟩ = some (.int .u64 W) := cell_of_cells t4.box 0
    have f1 : wc.cell? ⟨bx, 1, none⟩ = some (.int .u64 E) := cell_of_cells t4.box 1
    have f2 : wc.cell? ⟨bx, 2, none⟩ = some (.int .u64 F) := cell_of_cells t4.box 2
    have hbl := lt_of_cells t4.box
    have hle := t4.le
    clear t4
    clear T1
    go_upto_block 1 with (fail)
    go_cut [8, 9] (fun s8 s9 wd => ∃ (v : Int) (er : Value) (i' : Nat), s8 = .int .u64 v ∧ InR .u64 v ∧ s9 = er ∧ (er = .nilIface ∨ ErrV er) ∧ Ps cb bx #[.int .u64 W, .int .u64 E, .int .u64 F] s w0 wd i')
    case first =>
      go_upto_if 23 with (go_at_call 83; (with_reducible refine (LIT.out _ _ _ (by decide) hle T4.out.cu).mono ?_); rintro _ w5 ⟨b5, rfl, hk⟩; obtain ⟨i5, t5⟩ := T4.out.step hk; clear hk)
      clear k0 k1 m1 hlt f0 f1 f2 hbl hle
      have T5 := hidden t5
      have k0 : w5.cell? ⟨cb, 0, none⟩ = some (.string s) := cell_of_cells t5.cu 0
      have k1 : w5.cell? ⟨cb, 1, none⟩ = some (.int .i64 i5) := cell_of_cells t5.cu 1
      have m1 := mark_of_cells t5.cu 1
      have hlt := lt_of_cells t5.cu
      have f0 : w5.cell? ⟨bx, 0, none⟩ = some (.int .u64 W) := cell_of_cells t5.box 0
      have f1 : w5.cell? ⟨bx, 1, none⟩ = some (.int .u64 E) := cell_of_cells t5.box 1
      have f2 : w5.cell? ⟨bx, 2, none⟩ = some (.int .u64 F) := cell_of_cells t5.box 2
      have hbl := lt_of_cells t5.box
      have hle := t5.le
      clear t5
      cases b5
      · go_upto_if 28 with (go_at_call 83; (with_reducible refine (LIT.out _ _ _ (by decide) hle T5.out.cu).mono ?_); rintro _ w6 ⟨b6, rfl, hk⟩; obtain ⟨i6, t6⟩ := T5.out.step hk; clear hk)
        clear k0 k1 m1 hlt f0 f1 f2 hbl hle
        have T6 := hidden t6
        have k0 : w6.cell? ⟨cb, 0, none⟩ = some (.string s) := cell_of_cells t6.cu 0
        have k1 : w6.cell? ⟨cb, 1, none⟩ = some (.int .i64 i6) := cell_of_cells t6.cu 1
        have m1 := mark_of_cells t6.cu 1
        have hlt := lt_of_cells t6.cu
        have f0 : w6.cell? ⟨bx, 0, none⟩ = some (.int .u64 W) := cell_of_cells t6.box 0
        have f1 : w6.cell? ⟨bx, 1, none⟩ = some (.int .u64 E) := cell_of_cells t6.box 1
        have f2 : w6.cell? ⟨bx, 2, none⟩ = some (.int .u64 F) := cell_of_cells t6.box 2
        have hbl := lt_of_cells t6.box
        have hle := t6.le
        clear t6
        cases b6
        · go_upto_if 37 with (go_at_call 83; (with_reducible refine (LIT.out _ _ _ (by decide) hle T6.out.cu).mono ?_); rintro _ w7 ⟨b7, rfl, hk⟩; obtain ⟨i7, t7⟩ := T6.out.step hk; clear hk)
          clear k0 k1 m1 hlt f0 f1 f2 hbl hle
          have T7 := hidden t7
          have k0 : w7.cell? ⟨cb, 0, none⟩ = some (.string s) := cell_of_cells t7.cu 0
          have k1 : w7.cell? ⟨cb, 1, none⟩ = some (.int .i64 i7) := cell_of_cells t7.cu 1
          have m1 := mark_of_cells t7.cu 1
          have hlt := lt_of_cells t7.cu
          have f0 : w7.cell? ⟨bx, 0, none⟩ = some (.int .u64 W) := cell_of_cells t7.box 0
          have f1 : w7.cell? ⟨bx, 1, none⟩ = some (.int .u64 E) := cell_of_cells t7.box 1
          have f2 : w7.cell? ⟨bx, 2, none⟩ = some (.int .u64 F) := cell_of_cells t7.box 2
          have hbl := lt_of_cells t7.box
          have hle := t7.le
          clear t7
          cases b7
          · go_upto_if 40 with (go_at_call 83; (with_reducible refine (LIT.out _ _ _ (by decide) hle T7.out.cu).mono ?_); rintro _ w8 ⟨b8, rfl, hk⟩; obtain ⟨i8, t8⟩ := T7.out.step hk; clear hk)
            clear k0 k1 m1 hlt f0 f1 f2 hbl hle
            have T8 := hidden t8
            have k0 : w8.cell? ⟨cb, 0, none⟩ = some (.string s) := cell_of_cells t8.cu 0
            have k1 : w8.cell? ⟨cb, 1, none⟩ = some (.int .i64 i8) := cell_of_cells t8.cu 1
            have m1 := mark_of_cells t8.cu 1
            have hlt := lt_of_cells t8.cu
            have f0 : w8.cell? ⟨bx, 0, none⟩ = some (.int .u64 W) := cell_of_cells t8.box 0
            have f1 : w8.cell? ⟨bx, 1, none⟩ = some (.int .u64 E) := cell_of_cells t8.box 1
            have f2 : w8.cell? ⟨bx, 2, none⟩ = some (.int .u64 F) := cell_of_cells t8.box 2
            have hbl := lt_of_cells t8.box
            have hle := t8.le
            clear t8
            cases b8
            · go_wp2_with (go_at_call 84; (with_reducible refine (FAIL.out _ _ _ T8.out.cu).mono ?_); rintro _ _ ⟨er, rfl, her, x9, rfl⟩)
              go_meet
              case rel => exact ⟨0, er, i8, rfl, u64_in _ (by decide) (by decide), rfl, .inr her, T8.out.ext _⟩
            · go_wp2_with (go_at_call 87; (with_reducible refine (PF.out _ _ hle T8.out.cu).mono ?_); rintro _ w20 ⟨pv, per, rfl, hpv, hper, hk⟩; obtain ⟨i20, t20⟩ := T8.out.step hk; have HPV := hidden hpv; have HPE := hidden hper; clear hk hpv hper)
              go_meet
              case rel => exact ⟨pv, per, i20, rfl, HPV.out, rfl, HPE.out, t20⟩
          · go_wp2_with (fail)
            go_meet
            case rel => exact ⟨0, .nilIface, i7, rfl, u64_in _ (by decide) (by decide), rfl, .inl rfl, T7.out⟩
        · go_wp2_with (go_at_call 86; (with_reducible refine (PN.out _ _ hle T6.out.cu).mono ?_); rintro _ w20 ⟨pv, per, rfl, hpv, hper, hk⟩; obtain ⟨i20, t20⟩ := T6.out.step hk; have HPV := hidden hpv; have HPE := hidden hper; clear hk hpv hper)
          go_meet
          case rel => exact ⟨pv, per, i20, rfl, HPV.out, rfl, HPE.out, t20⟩
      · go_wp2_with (go_at_call 85; (with_reducible refine (C85.out _).mono ?_); rintro _ _ ⟨rfl, x20, rfl⟩)
        go_meet
        case rel => exact ⟨EM, .nilIface, i5, rfl, HEM.out, rfl, .inl rfl, T5.out.ext _⟩
    case rest =>
      obtain ⟨v, er, i9, rfl, hv, rfl, her, t9⟩ := hcut
      clear k0 k1 m1 hlt f0 f1 f2 hbl hle
      have T9 := hidden t9
      have k0 : wc.cell? ⟨cb, 0, none⟩ = some (.string s) := cell_of_cells t9.cu 0
      have k1 : wc.cell? ⟨cb, 1, none⟩ = some (.int .i64 i9) := cell_of_cells t9.cu 1
      have m1 := mark_of_cells t9.cu 1
      have hlt := lt_of_cells t9.cu
      have f0 : wc.cell? ⟨bx, 0, none⟩ = some (.int .u64 W) := cell_of_cells t9.box 0
      have f1 : wc.cell? ⟨bx, 1, none⟩ = some (.int .u64 E) := cell_of_cells t9.box 1
      have f2 : wc.cell? ⟨bx, 2, none⟩ = some (.int .u64 F) := cell_of_cells t9.box 2
      have hbl := lt_of_cells t9.box
      have hle := t9.le
      clear t9
      have HV := hidden hv
      clear hv
      rcases her with rfl | ⟨eb, rfl⟩
      · by_cases c1 : i9 = s.size
        · subst c1
          obtain ⟨r, hr, C88'⟩ := C88.out v nb HV.out
          have C88' := hidden C88'
          go_wp2_with (go_at_call 88; (with_reducible refine (C88'.out _).mono ?_); rintro _ _ ⟨rfl, x21, rfl⟩)
          go_ret2
          exact ⟨r, .nilIface, rfl, hr, .inl rfl, fin.out _ _ (T9.out.ext _)⟩
        · have c2 : ((i9 : Int) != s.size) = true := by simp; omega
          go_wp2_with (go_at_call 84; (with_reducible refine (FAIL.out _ _ _ T9.out.cu).mono ?_); rintro _ _ ⟨er, rfl, her, x9, rfl⟩)
          go_ret2
          exact ⟨0, er, rfl, u64_in _ (by decide) (by decide), .inr her, fin.out _ _ (T9.out.ext _)⟩
      · go_wp2_with (fail)
        go_ret2
        exact ⟨0, _, rfl, u64_in _ (by decide) (by decide), .inr ⟨eb, rfl⟩, fin.out _ _ T9.out⟩
end Go.Proofs.Qxb6500680aGreatDoor
