import Derived.Test.Qxb6500680aGreatDoorTx
import Derived.Lib.ItoaLen
import Derived.Deep.DeepCutAuto
namespace Go.Proofs.Qxb6500680aGreatDoor
open Go.RowKit Go.BigFrame
open Go.Lib (byteCells byteCells_append strCells_eq)
set_option linter.unusedSimpArgs false
attribute [local go_sem] ext_cell_if ext_frozen_if alloc_cell_if alloc_frozen_if ext_size ext_ext
/-- A format's masks and numbers, as its methods answer them. -/
structure Fc (W E F : Nat) (MM FM EM HB BI EI XI : Int) (H PD : Nat) : Prop where
  c90 : ∀ w, Calls Tryz.prog 90 #[.agg #[.int .u64 W, .int .u64 E, .int .u64 F]] w fun e w' => e = .returned (.int .u64 MM) ∧ ∃ x, w' = ext w x
  c156 : ∀ w, Calls Tryz.prog 156 #[.agg #[.int .u64 W, .int .u64 E, .int .u64 F]] w fun e w' => e = .returned (.int .u64 FM) ∧ ∃ x, w' = ext w x
  c85 : ∀ w, Calls Tryz.prog 85 #[.agg #[.int .u64 W, .int .u64 E, .int .u64 F]] w fun e w' => e = .returned (.int .u64 EM) ∧ ∃ x, w' = ext w x
  c158 : ∀ w, Calls Tryz.prog 158 #[.agg #[.int .u64 W, .int .u64 E, .int .u64 F]] w fun e w' => e = .returned (.int .u64 HB) ∧ ∃ x, w' = ext w x
  c145 : ∀ w, Calls Tryz.prog 145 #[.agg #[.int .u64 W, .int .u64 E, .int .u64 F]] w fun e w' => e = .returned (.int .i64 BI) ∧ ∃ x, w' = ext w x
  c187 : ∀ w, Calls Tryz.prog 187 #[.agg #[.int .u64 W, .int .u64 E, .int .u64 F]] w fun e w' => e = .returned (.int .i64 EI) ∧ ∃ x, w' = ext w x
  c192 : ∀ w, Calls Tryz.prog 192 #[.agg #[.int .u64 W, .int .u64 E, .int .u64 F]] w fun e w' => e = .returned (.int .i64 XI) ∧ ∃ x, w' = ext w x
  c186 : ∀ w, Calls Tryz.prog 186 #[.agg #[.int .u64 W, .int .u64 E, .int .u64 F]] w fun e w' => e = .returned (.int .i64 H) ∧ ∃ x, w' = ext w x
  c188 : ∀ w, Calls Tryz.prog 188 #[.agg #[.int .u64 W, .int .u64 E, .int .u64 F]] w fun e w' => e = .returned (.int .u64 PD) ∧ ∃ x, w' = ext w x
  c165 : ∀ p : Nat, ∃ b : Bool, ∀ w, Calls Tryz.prog 165 #[.agg #[.int .u64 W, .int .u64 E, .int .u64 F], .int .u64 p] w fun e w' => e = .returned (.bool b) ∧ ∃ x, w' = ext w x
  hH : H ≤ 13
  hEI : -9223372036854775808 ≤ EI ∧ EI ≤ 9223372036854775807
theorem fc32 : Fc 32 8 23 2147483647 8388607 2139095040 8388608 127 (-126) 127 6 1 := ⟨magMask32, fracMask32, expMask32, hiddenBit32, bias32, emin32, emax32, hexLen32, fracPad32, fun p => ⟨_, signBit32 p⟩, by omega, by omega⟩
theorem fc64 : Fc 64 11 52 9223372036854775807 4503599627370495 9218868437227405312 4503599627370496 1023 (-1022) 1023 13 0 := ⟨magMask64, fracMask64, expMask64, hiddenBit64, bias64, emin64, emax64, hexLen64, fracPad64, fun p => ⟨_, signBit64 p⟩, by omega, by omega⟩
theorem Tx.cell {B g n bx : Nat} {fm : Array Value} {w0 w : World} (h : Tx B g n bx fm w0 w) (o : Nat) : w.cell? ⟨bx, o, none⟩ = fm[o]? := cell_of_cells h.box o
theorem Tx.mark {B g n bx : Nat} {fm : Array Value} {w0 w : World} (h : Tx B g n bx fm w0 w) (o : Nat) : w.frozen? ⟨bx, o, none⟩ = false := mark_of_cells h.box o
theorem Tx.lt {B g n bx : Nat} {fm : Array Value} {w0 w : World} (h : Tx B g n bx fm w0 w) : bx < w.heap.size := lt_of_cells h.box
set_option maxRecDepth 100000 in
set_option maxHeartbeats 2000000 in
theorem appendText_any {W E F : Nat} {MM FM EM HB BI EI XI : Int} {H PD : Nat} (fc : Fc W E F MM FM EM HB BI EI XI H PD) (B g p : Nat) (w : World) (l0 : List UInt8) (hT : Row B g w 0 24 l0) (hB : B ≤ w.heap.size)
    (htab : Lib.TabBelow Tryz.prog B w "internal/strconv.uint64pow10" .u64 Lib.pow10Tab) : Calls Tryz.prog 82 #[.agg #[.int .u64 W, .int .u64 E, .int .u64 F], .slice (some ⟨g, 0, none⟩) 0 24, .int .u64 p] w (AppOK B w) := by
  have hg : g < w.heap.size := (World.ownsRow.lt hT g rfl).2
  obtain ⟨bx, hbx⟩ : ∃ bx, bx = w.heap.size := ⟨_, rfl⟩
  have T0 : Hid (Tx B g 0 bx #[.int .u64 W, .int .u64 E, .int .u64 F] w (w.alloc (.cells #[.int .u64 W, .int .u64 E, .int .u64 F] 35))) := hidden (by
    subst hbx
    exact ⟨⟨l0, hT.grow (grown_alloc _ _ _)⟩, heap_new _ _, Gr.alloc ⟨Below.refl _ _, hB⟩ _, by omega⟩)
  obtain ⟨b, c165⟩ := fc.c165 p
  have C165 := hidden c165
  have C90 := hidden fc.c90
  have C156 := hidden fc.c156
  have C85 := hidden fc.c85
  have C158 := hidden fc.c158
  have C145 := hidden fc.c145
  have C187 := hidden fc.c187
  have C186 := hidden fc.c186
  have C188 := hidden fc.c188
  have hH := fc.hH
  have hEI := hidden fc.hEI
  have HT := hidden htab
  clear c165 fc hT hB htab hg
  go_enter Tryz.func82, Tryz.ntmps82
  go_upto_if 12 with (go_at_call 165; (with_reducible refine (C165.out _).mono ?_); rintro _ _ ⟨rfl, x1, rfl⟩)
  simp only [← hbx]
  refine wp_gen (fun w1 => Tx B g 0 bx #[.int .u64 W, .int .u64 E, .int .u64 F] w w1) (T0.out.ext _) ?_
  intro w1 t1
  have T1 := hidden t1
  clear t1 C165 T0 hbx
  go_cut [1] (fun s1 wc => s1 = .slice (some ⟨g, 0, none⟩) 1 24 ∧ Tx B g 1 bx #[.int .u64 W, .int .u64 E, .int .u64 F] w wc)
  case first =>
    cases b
    · go_wp2_with (at_builtin; refine putT1 rfl (.tmp 16) (.tmp 17) rfl (T1.out.alloc _) (by simp [Act.eval]) ⟨w1.heap.size, 0, none⟩ 1 (by simp [Act.eval]) 43 (by simp) 1 rfl (by decide) ?_; intro w2 t2; have T2 := hidden t2; clear t2)
      go_meet
      case rel => exact ⟨rfl, T2.out⟩
    · go_wp2_with (at_builtin; refine putT1 rfl (.tmp 13) (.tmp 14) rfl (T1.out.alloc _) (by simp [Act.eval]) ⟨w1.heap.size, 0, none⟩ 1 (by simp [Act.eval]) 45 (by simp) 1 rfl (by decide) ?_; intro w2 t2; have T2 := hidden t2; clear t2)
      go_meet
      case rel => exact ⟨rfl, T2.out⟩
  case rest =>
    obtain ⟨rfl, t2⟩ := hcut
    have T2 := hidden t2
    have k0 : wc.cell? ⟨bx, 0, none⟩ = some (.int .u64 W) := t2.cell 0
    have k1 : wc.cell? ⟨bx, 1, none⟩ = some (.int .u64 E) := t2.cell 1
    have k2 : wc.cell? ⟨bx, 2, none⟩ = some (.int .u64 F) := t2.cell 2
    have m0 := t2.mark 0
    have m1 := t2.mark 1
    have m2 := t2.mark 2
    have hlt := t2.lt
    clear t2 T1
    obtain ⟨M, hM, hMb⟩ := bits_nat .and (p : Int) MM
    obtain ⟨G, hG, hGb⟩ := bits_nat .and (M : Int) FM
    have HMb := hidden hMb
    have HGb := hidden hGb
    clear hMb hGb
    go_upto_if 27 with (first | (go_at_call 90; (with_reducible refine (C90.out _).mono ?_); rintro _ _ ⟨rfl, x2, rfl⟩) | (go_at_call 156; (with_reducible refine (C156.out _).mono ?_); rintro _ _ ⟨rfl, x3, rfl⟩))
    try simp only [hM]
    try simp only [hG]
    clear hM hG C90 C156
    refine wp_gen (fun w1 => Tx B g 1 bx #[.int .u64 W, .int .u64 E, .int .u64 F] w w1) (T2.out.ext _) ?_
    clear k0 k1 k2 m0 m1 m2 hlt
    intro w3 t3
    have T3 := hidden t3
    have k0 : w3.cell? ⟨bx, 0, none⟩ = some (.int .u64 W) := t3.cell 0
    have k1 : w3.cell? ⟨bx, 1, none⟩ = some (.int .u64 E) := t3.cell 1
    have k2 : w3.cell? ⟨bx, 2, none⟩ = some (.int .u64 F) := t3.cell 2
    have m0 := t3.mark 0
    have m1 := t3.mark 1
    have m2 := t3.mark 2
    have hlt := t3.lt
    clear t3 T2
    obtain ⟨b0, hb0⟩ : ∃ b, ((M : Int) == 0) = b := ⟨_, rfl⟩
    cases b0
    · obtain ⟨b1, hb1⟩ : ∃ b, ((M : Int) == EM) = b := ⟨_, rfl⟩
      cases b1
      · by_cases c2 : EM < (M : Int)
        · go_upto_region 12 with (first | (go_at_call 85; (with_reducible refine (C85.out _).mono ?_); rintro _ _ ⟨rfl, x4, rfl⟩) | (at_builtin; refine putTs rfl (.tmp 44) (.const (.string ⟨#[110, 97, 110, 40, 48, 120]⟩)) rfl ((T3.out.ext _)) (by simp [Act.eval]) _ rfl 7 rfl (by decide) ?_; intro w4 t4; have T4 := hidden t4; clear t4))
          have t4 := T4.out
          clear T4 k0 k1 k2 m0 m1 m2 hlt
          have T4 := hidden t4
          have k0 : w4.cell? ⟨bx, 0, none⟩ = some (.int .u64 W) := t4.cell 0
          have k1 : w4.cell? ⟨bx, 1, none⟩ = some (.int .u64 E) := t4.cell 1
          have k2 : w4.cell? ⟨bx, 2, none⟩ = some (.int .u64 F) := t4.cell 2
          have m0 := t4.mark 0
          have m1 := t4.mark 1
          have m2 := t4.mark 2
          have hlt := t4.lt
          clear t4
          have HX := hidden (fun x => hexT (m := 7 + H) G H HGb.out (by omega) rfl (by omega) (T4.out.ext x))
          go_wp2_with (first | (go_at_call 186; (with_reducible refine (C186.out _).mono ?_); rintro _ _ ⟨rfl, x5, rfl⟩) | (go_at_call 185; (with_reducible refine (HX.out _).mono ?_); rintro _ w5 ⟨rfl, t5⟩; have T5 := hidden t5; clear t5) | (at_builtin; refine putT1 rfl (.tmp 51) (.tmp 52) rfl (T5.out.alloc _) (by simp [Act.eval]) ⟨w5.heap.size, 0, none⟩ 1 (by simp [Act.eval]) 41 (by simp) (7 + H + 1) rfl (by omega) ?_; intro w6 t6; have T6 := hidden t6; clear t6))
          go_ret
          exact app_end T6.out (by omega)
        · go_upto_if 59 with (first | (go_at_call 85; (with_reducible refine (C85.out _).mono ?_); rintro _ _ ⟨rfl, x4, rfl⟩) | (go_at_call 187; (with_reducible refine (C187.out _).mono ?_); rintro _ _ ⟨rfl, x5, rfl⟩) | (go_at_call 158; (with_reducible refine (C158.out _).mono ?_); rintro _ _ ⟨rfl, x6, rfl⟩))
          refine wp_gen (fun w1 => Tx B g 1 bx #[.int .u64 W, .int .u64 E, .int .u64 F] w w1) (T3.out.ext _) ?_
          clear k0 k1 k2 m0 m1 m2 hlt
          intro w4 t4
          have T4 := hidden t4
          have k0 : w4.cell? ⟨bx, 0, none⟩ = some (.int .u64 W) := t4.cell 0
          have k1 : w4.cell? ⟨bx, 1, none⟩ = some (.int .u64 E) := t4.cell 1
          have k2 : w4.cell? ⟨bx, 2, none⟩ = some (.int .u64 F) := t4.cell 2
          have m0 := t4.mark 0
          have m1 := t4.mark 1
          have m2 := t4.mark 2
          have hlt := t4.lt
          clear t4
          clear T3 C187 C158 C85 hb0 hb1
          go_cut [1, 9] (fun s1 s9 wd => ∃ i : Int, s1 = .slice (some ⟨g, 0, none⟩) 5 24 ∧ s9 = .int .i64 i ∧ (-9223372036854775808 ≤ i ∧ i ≤ 9223372036854775807) ∧ Tx B g 5 bx #[.int .u64 W, .int .u64 E, .int .u64 F] w wd)
          case first =>
            by_cases c3 : (M : Int) < HB
            · go_wp2_with (at_builtin; refine putTs rfl (.tmp 60) (.const (.string ⟨#[48, 120, 48, 46]⟩)) rfl T4.out (by simp [Act.eval]) _ rfl 5 rfl (by decide) ?_; intro w5 t5; have T5 := hidden t5; clear t5)
              go_meet
              case rel => exact ⟨EI, rfl, rfl, hEI.out, T5.out⟩
            · go_upto_region 18 with (at_builtin; refine putTs rfl (.tmp 62) (.const (.string ⟨#[48, 120, 49, 46]⟩)) rfl T4.out (by simp [Act.eval]) _ rfl 5 rfl (by decide) ?_; intro w5 t5; have T5 := hidden t5; clear t5)
              have t5 := T5.out
              clear T5 k0 k1 k2 m0 m1 m2 hlt
              have T5 := hidden t5
              have k0 : w5.cell? ⟨bx, 0, none⟩ = some (.int .u64 W) := t5.cell 0
              have k1 : w5.cell? ⟨bx, 1, none⟩ = some (.int .u64 E) := t5.cell 1
              have k2 : w5.cell? ⟨bx, 2, none⟩ = some (.int .u64 F) := t5.cell 2
              have m0 := t5.mark 0
              have m1 := t5.mark 1
              have m2 := t5.mark 2
              have hlt := t5.lt
              clear t5
              refine wp_region_ext (by kernel_rfl) (by kernel_rfl) ?_
              repeat (go_big_quiet_step ((go_at_call 145; first | with_reducible exact Calls_ext (C145.out _) | with_reducible exact Calls_ext2 (C145.out _))))
              refine wpQuiet_nil ?_
              rintro w6 ⟨x6, rfl⟩
              go_wp2_with (fail)
              go_meet
              case rel => exact ⟨_, rfl, rfl, wrap64_bd _, T5.out.ext _⟩
          case rest =>
            obtain ⟨i, rfl, rfl, hi, t5⟩ := hcut
            clear k0 k1 k2 m0 m1 m2 hlt
            have T5 := hidden t5
            have k0 : wc.cell? ⟨bx, 0, none⟩ = some (.int .u64 W) := t5.cell 0
            have k1 : wc.cell? ⟨bx, 1, none⟩ = some (.int .u64 E) := t5.cell 1
            have k2 : wc.cell? ⟨bx, 2, none⟩ = some (.int .u64 F) := t5.cell 2
            have m0 := t5.mark 0
            have m1 := t5.mark 1
            have m2 := t5.mark 2
            have hlt := t5.lt
            clear t5
            clear T4
            obtain ⟨V, hV, hVb⟩ := wr_nat ((G : Int) * 2 ^ min PD 64)
            have HX := hidden (fun x => hexT (m := 5 + H) V H hVb (by omega) rfl (by omega) (T5.out.ext x))
            have HI := hidden hi
            clear hVb hi
            go_upto_region 19 with (fail)
            refine wp_region_pivot 7 (by kernel_rfl) (by kernel_rfl) (by kernel_rfl) ?_
            simp only [List.take_succ_cons, List.take_zero, List.drop_succ_cons, List.drop_zero]
            repeat (go_big_quiet_step ((first | (go_at_call 188; first | with_reducible exact Calls_ext (C188.out _) | with_reducible exact Calls_ext2 (C188.out _)) | (go_at_call 186; first | with_reducible exact Calls_ext (C186.out _) | with_reducible exact Calls_ext2 (C186.out _)))))
            refine wpQuiet_nil ?_
            rintro w6 ⟨x6, rfl⟩
            try simp only [hV]
            go_wp2_with (go_at_call 185; (with_reducible refine (HX.out _).mono ?_); rintro _ w7 ⟨rfl, t7⟩; have T7 := hidden t7; clear t7)
            simp only [endBy]
            repeat (go_big_quiet_step ((fail)))
            refine wpQuiet_nil ?_
            clear k0 k1 k2 m0 m1 m2 hlt T5 HX
            go_upto_if 84 with (at_builtin; refine putT1 rfl (.tmp 80) (.tmp 81) rfl (T7.out.alloc _) (by simp [Act.eval]) ⟨w7.heap.size, 0, none⟩ 1 (by simp [Act.eval]) 112 (by simp) (5 + H + 1) rfl (by omega) ?_; intro w8 t8; have T8 := hidden t8; clear t8)
            by_cases c4 : 0 ≤ i
            · go_upto_region 23 with (at_builtin; refine putT1 rfl (.tmp 85) (.tmp 86) rfl (T8.out.alloc _) (by simp [Act.eval]) ⟨w8.heap.size, 0, none⟩ 1 (by simp [Act.eval]) 43 (by simp) (5 + H + 1 + 1) rfl (by omega) ?_; intro w9 t9; have T9 := hidden t9; clear t9)
              have AI := hidden (intT i HI.out.1 HI.out.2 T9.out (by omega) (by have := Lib.itoa_length_le i HI.out.1 HI.out.2; omega) (HT.out.on T9.out.gr.1))
              go_wp2_with (go_at_call 189; (with_reducible refine AI.out.mono ?_); rintro _ w10 ⟨v, n, l, rfl, h10⟩; have H10 := hidden h10; clear h10)
              go_ret
              exact ⟨_, _, _, rfl, H10.out⟩
            · go_upto_region 23 with (fail)
              have AI := hidden (intT i HI.out.1 HI.out.2 T8.out (by omega) (by have := Lib.itoa_length_le i HI.out.1 HI.out.2; omega) (HT.out.on T8.out.gr.1))
              go_wp2_with (go_at_call 189; (with_reducible refine AI.out.mono ?_); rintro _ w10 ⟨v, n, l, rfl, h10⟩; have H10 := hidden h10; clear h10)
              go_ret
              exact ⟨_, _, _, rfl, H10.out⟩
      · go_wp2_with (first | (go_at_call 85; (with_reducible refine (C85.out _).mono ?_); rintro _ _ ⟨rfl, x4, rfl⟩) | (at_builtin; refine putTs rfl (.tmp 37) (.const (.string ⟨#[105, 110, 102]⟩)) rfl (T3.out.ext _) (by simp [Act.eval]) _ rfl 4 rfl (by decide) ?_; intro w4 t4; have T4 := hidden t4; clear t4))
        go_ret
        exact app_end T4.out (by decide)
    · go_wp2_with (at_builtin; refine putTs rfl (.tmp 30) (.const (.string ⟨#[48, 120, 48, 112, 43, 48]⟩)) rfl T3.out (by simp [Act.eval]) _ rfl 7 rfl (by decide) ?_; intro w4 t4; have T4 := hidden t4; clear t4)
      go_ret
      exact app_end T4.out (by decide)
end Go.Proofs.Qxb6500680aGreatDoor
