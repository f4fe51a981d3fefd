import Derived.Test.Qxb6500680aGreatDoorCe
namespace Go.Proofs.Qxb6500680aGreatDoor
open Go.RowKit Go.BigFrame
set_option linter.unusedSimpArgs false
attribute [local go_sem] ext_cell_if ext_frozen_if alloc_cell_if alloc_frozen_if ext_size ext_ext
/-- Where the reading of a decimal number stands at place j. -/
def DecI (s : ByteArray) (i j v : Nat) : Prop := v < 10 ^ (j - i) ∧ j ≤ i + 4 ∧ i ≤ j ∧ decL 4 (At s i) 0 = decL (4 - (j - i)) (At s j) v
theorem DecI.step {s : ByteArray} {i j v : Nat} (h : DecI s i j v) (h1 : j < s.size) (h2 : j < i + 4) (h3 : 48 ≤ s[j].toNat) (h4 : s[j].toNat ≤ 57) : DecI s i (j + 1) (v * 10 + (s[j].toNat - 48)) := by
  obtain ⟨a1, a2, a3, a4⟩ := h
  refine ⟨?_, by omega, by omega, ?_⟩
  · rw [show j + 1 - i = (j - i) + 1 by omega, Nat.pow_succ]
    omega
  · rw [a4, At.cons s j h1, show 4 - (j - i) = (4 - (j + 1 - i)) + 1 by omega]
    have e : isD s[j] = true := by simp [isD, h3, h4]
    simp only [decL, e, if_true]
theorem DecI.stop {s : ByteArray} {i j v : Nat} (h : DecI s i j v) (hj : j ≤ s.size) (h1 : ∀ (h1 : j < s.size), j < i + 4 → isD s[j] = false) : decL 4 (At s i) 0 = (v, At s j) := by
  obtain ⟨a1, a2, a3, a4⟩ := h
  rw [a4]
  by_cases c1 : j < s.size
  · by_cases c2 : j < i + 4
    · rw [At.cons s j c1, show 4 - (j - i) = (4 - (j + 1 - i)) + 1 by omega]
      simp only [decL, h1 c1 c2, if_false, Bool.false_eq_true]
    · rw [show 4 - (j - i) = 0 by omega]
      rfl
  · rw [At.nil s j (by omega)]
    cases 4 - (j - i) <;> rfl
theorem DecI.small {s : ByteArray} {i j v : Nat} (h : DecI s i j v) : v < 10000 := by
  have h1 : (10 : Nat) ^ (j - i) ≤ 10 ^ 4 := Nat.pow_le_pow_right (by decide) (by have := h.2.1; omega)
  have := h.1
  omega
theorem decP_none {s : ByteArray} {i v : Nat} (h : decL 4 (At s i) 0 = (v, At s i)) : decP (At s i) = none := by
  unfold decP
  rw [h, if_pos (.inl rfl)]
theorem decP_zero {s : ByteArray} {i j v : Nat} (h : decL 4 (At s i) 0 = (v, At s j)) (h1 : i + 1 < j) (h2 : j ≤ s.size) (h3 : s[i] = 48) : decP (At s i) = none := by
  unfold decP
  rw [h, if_pos (.inr ⟨by simp only [At.len]; omega, by rw [At.cons s i (by omega), h3]; rfl⟩)]
theorem decP_some {s : ByteArray} {i j v : Nat} (h : decL 4 (At s i) 0 = (v, At s j)) (h1 : i < j) (h2 : j ≤ s.size) (h3 : i + 1 < j → s[i] ≠ 48) : decP (At s i) = some (v, At s j) := by
  unfold decP
  rw [h, if_neg]
  rintro (h4 | ⟨h4, h5⟩)
  · simp only [At.len] at h4
    omega
  · simp only [At.len] at h4
    rw [At.cons s i (by omega)] at h5
    simp at h5
    exact h3 (by omega) h5
theorem dec_wrap (v ch : Nat) (hv : v < 10000) (h1 : 48 ≤ ch) (h2 : ch ≤ 57) : wrap64 (wrap64 ((v : Int) * 10) + ((ch : Int) - 48)) = ((v * 10 + (ch - 48) : Nat) : Int) := by
  unfold wrap64
  omega
theorem not_isD {c : UInt8} (h : ¬ (48 ≤ c.toNat ∧ c.toNat ≤ 57)) : isD c = false := by
  simp only [isD, Bool.and_eq_false_iff, decide_eq_false_iff_not]
  omega
set_option maxRecDepth 100000 in
set_option maxHeartbeats 4000000 in
theorem decimal_eq (cb : Nat) (s : ByteArray) (i : Nat) (hs : s.size ≤ 100) (hi : i ≤ s.size) (w : World) (hc : Cu cb s i w) : Calls Tryz.prog 218 #[.pointer (some ⟨cb, 0, none⟩)] w (DecX cb s (At s i) w) := by
  have k0 : w.cell? ⟨cb, 0, none⟩ = some (.string s) := cell_of_cells hc 0
  have k1 : w.cell? ⟨cb, 1, none⟩ = some (.int .i64 i) := cell_of_cells hc 1
  have hlt := lt_of_cells hc
  have HC := hidden hc
  clear hc
  go_enter Tryz.func218, Tryz.ntmps218
  go_wp2
  clear k0 k1 hlt
  go_loopw [5] (fun s5 wi => ∃ (v : Nat) (j : Nat), s5 = .int .i64 v ∧ DecI s i j v ∧ i ≤ j ∧ j ≤ s.size ∧ Cu cb s j wi ∧ w.grownBy wi (some cb)) (fun _ wi => match wi.cell? ⟨cb, 1, none⟩ with | some (.int .i64 z) => (100 - z).toNat | _ => 0)
  case atStart => exact ⟨0, i, rfl, ⟨by simp, by omega, by omega, by simp⟩, by omega, by omega, HC.out, grown_refl _ _⟩
  case round =>
    obtain ⟨v, j, rfl, hv, hij, hjs, hcj, hg⟩ := hrel
    have k0 : wr.cell? ⟨cb, 0, none⟩ = some (.string s) := cell_of_cells hcj 0
    have k1 : wr.cell? ⟨cb, 1, none⟩ = some (.int .i64 j) := cell_of_cells hcj 1
    have m1 := mark_of_cells hcj 1
    have hlt := lt_of_cells hcj
    have HV := hidden hv
    have hij4 := hv.2.1
    have HJ := hidden hcj
    have HG := hidden hg
    clear hv hcj hg HC
    by_cases c1 : j < s.size
    · obtain ⟨ch, hch, hchb⟩ : ∃ ch : Nat, s[j].toNat = ch ∧ ch < 256 := ⟨_, rfl, s[j].toNat_lt⟩
      by_cases c2 : j < i + 4
      · by_cases c3 : 48 ≤ ch
        · by_cases c4 : ch ≤ 57
          · have d2 : decide ((j : Int) - i < 4) = true := by simp; omega
            have d3 : decide (48 ≤ (ch : Int)) = true := by simp; omega
            have d4 : decide ((ch : Int) ≤ 57) = true := by simp; omega
            go_upto_region 3 with (fail)
            refine wp_region_ext (by kernel_rfl) (by kernel_rfl) ?_
            repeat (go_big_quiet_step ((fail)))
            refine wpQuiet_nil ?_
            rintro w1 ⟨x1, rfl⟩
            go_upto_region 4 with (fail)
            refine wp_region_ext (by kernel_rfl) (by kernel_rfl) ?_
            repeat (go_big_quiet_step ((fail)))
            refine wpQuiet_nil ?_
            rintro w2 ⟨x2, rfl⟩
            go_wp2_with (fail)
            have hb := blk_set (blk_ext (x := cat x1 x2) HJ.out) 1 (.int .i64 ((j : Int) + 1))
            have kk : ((ext wr (cat x1 x2)).setCell ⟨cb, 1, none⟩ (.int .i64 ((j : Int) + 1))).cell? ⟨cb, 1, none⟩ = some (.int .i64 ((j : Int) + 1)) := by rw [cell_of_cells hb 1]; rfl
            have hst := HV.out.step c1 c2 (by omega) (by omega)
            rw [hch] at hst
            refine ⟨⟨v * 10 + (ch - 48), j + 1, congrArg (Value.int .i64) (dec_wrap v ch HV.out.small c3 c4), hst, by omega, by omega, by simpa [Cu] using hb, grown_trans HG.out (grown_trans (grown_ext _ _ _) (grown_set _ _ _))⟩, ?_⟩
            rw [kk, k1]
            show ((100 : Int) - ((j : Int) + 1)).toNat < ((100 : Int) - (j : Int)).toNat
            omega
          · have d2 : decide ((j : Int) - i < 4) = true := by simp; omega
            have d3 : decide (48 ≤ (ch : Int)) = true := by simp; omega
            have d4 : decide ((ch : Int) ≤ 57) = false := by simp; omega
            have HSTOP := hidden (HV.out.stop hjs (fun h1 h2 => not_isD (by omega)))
            go_upto_region 3 with (fail)
            refine wp_region_ext (by kernel_rfl) (by kernel_rfl) ?_
            repeat (go_big_quiet_step ((fail)))
            refine wpQuiet_nil ?_
            rintro w1 ⟨x1, rfl⟩
            clear d2 d3 d4
            by_cases e1 : j = i
            · subst e1
              go_wp2_with (fail)
              go_ret2
              exact ⟨0, false, j, rfl, ⟨by simp, fun _ => decP_none HSTOP.out⟩, by omega, by have h := blk_set (blk_ext (x := x1) HJ.out) 1 (.int .i64 (j : Int)); simpa [Cu] using h, grown_trans HG.out (grown_trans (grown_ext _ _ _) (grown_set _ _ _))⟩
            by_cases e2 : j = i + 1
            · subst e2
              go_wp2_with (fail)
              go_ret2
              exact ⟨v, true, i + 1, rfl, ⟨fun _ => ⟨decP_some HSTOP.out (by omega) hjs (by omega), HV.out.small⟩, by simp⟩, by omega, blk_ext HJ.out, grown_trans HG.out (grown_ext _ _ _)⟩
            have e3 : i < s.size := by omega
            obtain ⟨c0, hc0, hc0b⟩ : ∃ c0 : Nat, s[i].toNat = c0 ∧ c0 < 256 := ⟨_, rfl, s[i].toNat_lt⟩
            have e4 : (((j : Int) - i) == 0) = false := by rw [beq_eq_false_iff_ne]; omega
            have e7 : decide (1 < (j : Int) - i) = true := by simp; omega
            by_cases e5 : c0 = 48
            · subst e5
              go_wp2_with (fail)
              go_ret2
              exact ⟨0, false, i, rfl, ⟨by simp, fun _ => decP_zero HSTOP.out (by omega) hjs (UInt8.toNat_inj.1 hc0)⟩, by omega, by have h := blk_set (blk_ext (x := x1) HJ.out) 1 (.int .i64 (i : Int)); simpa [Cu] using h, grown_trans HG.out (grown_trans (grown_ext _ _ _) (grown_set _ _ _))⟩
            · have e6 : ((c0 : Int) == 48) = false := by rw [beq_eq_false_iff_ne]; omega
              go_wp2_with (fail)
              go_ret2
              exact ⟨v, true, j, rfl, ⟨fun _ => ⟨decP_some HSTOP.out (by omega) hjs (fun _ e => e5 (by rw [← hc0, e]; rfl)), HV.out.small⟩, by simp⟩, by omega, blk_ext HJ.out, grown_trans HG.out (grown_ext _ _ _)⟩
        · have d2 : decide ((j : Int) - i < 4) = true := by simp; omega
          have d3 : decide (48 ≤ (ch : Int)) = false := by simp; omega
          have HSTOP := hidden (HV.out.stop hjs (fun h1 h2 => not_isD (by omega)))
          go_upto_region 3 with (fail)
          refine wp_region_ext (by kernel_rfl) (by kernel_rfl) ?_
          repeat (go_big_quiet_step ((fail)))
          refine wpQuiet_nil ?_
          rintro w1 ⟨x1, rfl⟩
          clear d2 d3
          by_cases e1 : j = i
          · subst e1
            go_wp2_with (fail)
            go_ret2
            exact ⟨0, false, j, rfl, ⟨by simp, fun _ => decP_none HSTOP.out⟩, by omega, by have h := blk_set (blk_ext (x := x1) HJ.out) 1 (.int .i64 (j : Int)); simpa [Cu] using h, grown_trans HG.out (grown_trans (grown_ext _ _ _) (grown_set _ _ _))⟩
          by_cases e2 : j = i + 1
          · subst e2
            go_wp2_with (fail)
            go_ret2
            exact ⟨v, true, i + 1, rfl, ⟨fun _ => ⟨decP_some HSTOP.out (by omega) hjs (by omega), HV.out.small⟩, by simp⟩, by omega, blk_ext HJ.out, grown_trans HG.out (grown_ext _ _ _)⟩
          have e3 : i < s.size := by omega
          obtain ⟨c0, hc0, hc0b⟩ : ∃ c0 : Nat, s[i].toNat = c0 ∧ c0 < 256 := ⟨_, rfl, s[i].toNat_lt⟩
          have e4 : (((j : Int) - i) == 0) = false := by rw [beq_eq_false_iff_ne]; omega
          have e7 : decide (1 < (j : Int) - i) = true := by simp; omega
          by_cases e5 : c0 = 48
          · subst e5
            go_wp2_with (fail)
            go_ret2
            exact ⟨0, false, i, rfl, ⟨by simp, fun _ => decP_zero HSTOP.out (by omega) hjs (UInt8.toNat_inj.1 hc0)⟩, by omega, by have h := blk_set (blk_ext (x := x1) HJ.out) 1 (.int .i64 (i : Int)); simpa [Cu] using h, grown_trans HG.out (grown_trans (grown_ext _ _ _) (grown_set _ _ _))⟩
          · have e6 : ((c0 : Int) == 48) = false := by rw [beq_eq_false_iff_ne]; omega
            go_wp2_with (fail)
            go_ret2
            exact ⟨v, true, j, rfl, ⟨fun _ => ⟨decP_some HSTOP.out (by omega) hjs (fun _ e => e5 (by rw [← hc0, e]; rfl)), HV.out.small⟩, by simp⟩, by omega, blk_ext HJ.out, grown_trans HG.out (grown_ext _ _ _)⟩
      · have d2 : decide ((j : Int) - i < 4) = false := by simp; omega
        have HSTOP := hidden (HV.out.stop hjs (fun h1 h2 => not_isD (by omega)))
        go_upto_region 3 with (fail)
        refine wp_region_ext (by kernel_rfl) (by kernel_rfl) ?_
        repeat (go_big_quiet_step ((fail)))
        refine wpQuiet_nil ?_
        rintro w1 ⟨x1, rfl⟩
        clear d2 hch hchb
        have e1 : ¬ j = i := by omega
        have e2 : ¬ j = i + 1 := by omega
        have e3 : i < s.size := by omega
        obtain ⟨c0, hc0, hc0b⟩ : ∃ c0 : Nat, s[i].toNat = c0 ∧ c0 < 256 := ⟨_, rfl, s[i].toNat_lt⟩
        have e4 : (((j : Int) - i) == 0) = false := by rw [beq_eq_false_iff_ne]; omega
        have e7 : decide (1 < (j : Int) - i) = true := by simp; omega
        by_cases e5 : c0 = 48
        · subst e5
          go_wp2_with (fail)
          go_ret2
          exact ⟨0, false, i, rfl, ⟨by simp, fun _ => decP_zero HSTOP.out (by omega) hjs (UInt8.toNat_inj.1 hc0)⟩, by omega, by have h := blk_set (blk_ext (x := x1) HJ.out) 1 (.int .i64 (i : Int)); simpa [Cu] using h, grown_trans HG.out (grown_trans (grown_ext _ _ _) (grown_set _ _ _))⟩
        · have e6 : ((c0 : Int) == 48) = false := by rw [beq_eq_false_iff_ne]; omega
          go_wp2_with (fail)
          go_ret2
          exact ⟨v, true, j, rfl, ⟨fun _ => ⟨decP_some HSTOP.out (by omega) hjs (fun _ e => e5 (by rw [← hc0, e]; rfl)), HV.out.small⟩, by simp⟩, by omega, blk_ext HJ.out, grown_trans HG.out (grown_ext _ _ _)⟩
    · have HSTOP := hidden (HV.out.stop hjs (fun h1 h2 => not_isD (by omega)))
      go_upto_region 3 with (fail)
      refine wp_region_ext (by kernel_rfl) (by kernel_rfl) ?_
      repeat (go_big_quiet_step ((fail)))
      refine wpQuiet_nil ?_
      rintro w1 ⟨x1, rfl⟩
      by_cases e1 : j = i
      · subst e1
        go_wp2_with (fail)
        go_ret2
        exact ⟨0, false, j, rfl, ⟨by simp, fun _ => decP_none HSTOP.out⟩, by omega, by have h := blk_set (blk_ext (x := x1) HJ.out) 1 (.int .i64 (j : Int)); simpa [Cu] using h, grown_trans HG.out (grown_trans (grown_ext _ _ _) (grown_set _ _ _))⟩
      by_cases e2 : j = i + 1
      · subst e2
        go_wp2_with (fail)
        go_ret2
        exact ⟨v, true, i + 1, rfl, ⟨fun _ => ⟨decP_some HSTOP.out (by omega) hjs (by omega), HV.out.small⟩, by simp⟩, by omega, blk_ext HJ.out, grown_trans HG.out (grown_ext _ _ _)⟩
      have e3 : i < s.size := by omega
      obtain ⟨c0, hc0, hc0b⟩ : ∃ c0 : Nat, s[i].toNat = c0 ∧ c0 < 256 := ⟨_, rfl, s[i].toNat_lt⟩
      have e4 : (((j : Int) - i) == 0) = false := by rw [beq_eq_false_iff_ne]; omega
      have e7 : decide (1 < (j : Int) - i) = true := by simp; omega
      by_cases e5 : c0 = 48
      · subst e5
        go_wp2_with (fail)
        go_ret2
        exact ⟨0, false, i, rfl, ⟨by simp, fun _ => decP_zero HSTOP.out (by omega) hjs (UInt8.toNat_inj.1 hc0)⟩, by omega, by have h := blk_set (blk_ext (x := x1) HJ.out) 1 (.int .i64 (i : Int)); simpa [Cu] using h, grown_trans HG.out (grown_trans (grown_ext _ _ _) (grown_set _ _ _))⟩
      · have e6 : ((c0 : Int) == 48) = false := by rw [beq_eq_false_iff_ne]; omega
        go_wp2_with (fail)
        go_ret2
        exact ⟨v, true, j, rfl, ⟨fun _ => ⟨decP_some HSTOP.out (by omega) hjs (fun _ e => e5 (by rw [← hc0, e]; rfl)), HV.out.small⟩, by simp⟩, by omega, blk_ext HJ.out, grown_trans HG.out (grown_ext _ _ _)⟩
theorem expP_none {t : List UInt8} (h1 : strip [43] t = none) (h2 : strip [45] t = none) : expP t = none := by
  unfold expP
  rw [h1, h2]
/-- A sign was read. -/
def SgR (t : List UInt8) (nb : Bool) (t' : List UInt8) : Prop := (nb = false ∧ strip [43] t = some t') ∨ (nb = true ∧ strip [43] t = none ∧ strip [45] t = some t')
theorem SgR.bad {t t' : List UInt8} {nb : Bool} (h : SgR t nb t') (hd : decP t' = none) : expP t = none := by
  unfold expP
  rcases h with ⟨_, h⟩ | ⟨_, h1, h2⟩
  · simp [h, hd]
  · simp [h1, h2, hd]
theorem SgR.pos {t t' r : List UInt8} {v : Nat} (h : SgR t false t') (hd : decP t' = some (v, r) ∧ v < 10000) : expP t = some ((v : Int), r) ∧ -10000 < (v : Int) ∧ (v : Int) < 10000 := by
  refine ⟨?_, by omega, by omega⟩
  unfold expP
  rcases h with ⟨_, h⟩ | ⟨h0, h1, h2⟩
  · simp [h, hd.1]
  · cases h0
theorem SgR.neg {t t' r : List UInt8} {v : Nat} (h : SgR t true t') (hd : decP t' = some (v, r) ∧ v < 10000) (hz : v ≠ 0) : expP t = some (-(v : Int), r) ∧ -10000 < -(v : Int) ∧ -(v : Int) < 10000 := by
  refine ⟨?_, by omega, by omega⟩
  unfold expP
  rcases h with ⟨h0, h⟩ | ⟨h0, h1, h2⟩
  · cases h0
  · simp [h1, h2, hd.1, hz]
theorem SgR.zero {t t' r : List UInt8} {v : Nat} (h : SgR t true t') (hd : decP t' = some (v, r) ∧ v < 10000) (hz : v = 0) : expP t = none := by
  unfold expP
  rcases h with ⟨h0, h⟩ | ⟨h0, h1, h2⟩
  · cases h0
  · simp [h1, h2, hd.1, hz]
theorem neg_wrap (v : Nat) (h : v < 10000) : wrap64 (-(v : Int)) = -(v : Int) := by unfold wrap64; omega
set_option maxRecDepth 100000 in
set_option maxHeartbeats 4000000 in
theorem exponent_eq (cb : Nat) (s : ByteArray) (i : Nat) (hs : s.size ≤ 100) (hi : i ≤ s.size) (w : World) (hc : Cu cb s i w) : Calls Tryz.prog 191 #[.pointer (some ⟨cb, 0, none⟩)] w (ExpX cb s (At s i) w) := by
  have k0 : w.cell? ⟨cb, 0, none⟩ = some (.string s) := cell_of_cells hc 0
  have k1 : w.cell? ⟨cb, 1, none⟩ = some (.int .i64 i) := cell_of_cells hc 1
  have m1 := mark_of_cells hc 1
  have hlt := lt_of_cells hc
  have HC := hidden hc
  have LIT := hidden (fun (lit : ByteArray) (i : Nat) (w : World) (hl : lit.size ≤ 100) (hi : i ≤ s.size) (hc : Cu cb s i w) => literal_eq cb s lit i hs hi hl w hc)
  have DEC := hidden (fun (i : Nat) (w : World) (hi : i ≤ s.size) (hc : Cu cb s i w) => decimal_eq cb s i hs hi w hc)
  clear hc
  go_enter Tryz.func191, Tryz.ntmps191
  go_upto_block 0 with (fail)
  go_cut [5] (fun s5 wc => ∃ (nb : Bool) (i' : Nat), s5 = .bool nb ∧ SgR (At s i) nb (At s i') ∧ i' ≤ s.size ∧ Cu cb s i' wc ∧ w.grownBy wc (some cb))
  case first =>
    clear k0 k1 m1 hlt
    go_upto_if 12 with (go_at_call 83; (with_reducible refine (LIT.out _ _ _ (by decide) hi HC.out).mono ?_); rintro _ w1 ⟨b1, i1, rfl, hr1, hi1, hc1, hg1⟩)
    have HC1 := hidden hc1
    have R1 := hidden hr1
    clear hr1
    have HG1 := hidden hg1
    clear hc1 hg1
    cases b1
    · go_upto_if 15 with (go_at_call 83; (with_reducible refine (LIT.out _ _ _ (by decide) hi1 HC1.out).mono ?_); rintro _ w2 ⟨b2, i2, rfl, hr2, hi2, hc2, hg2⟩)
      have HC2 := hidden hc2
      have R2 := hidden hr2
      clear hr2
      have HG2 := hidden (grown_trans HG1.out hg2)
      clear hc2 hg2
      cases b2
      · go_wp2_with (fail)
        go_ret2
        exact ⟨0, false, i2, rfl, ⟨by simp, fun _ => expP_none (R1.out.2 rfl).1 ((R1.out.2 rfl).2 ▸ (R2.out.2 rfl).1)⟩, hi2, HC2.out, HG2.out⟩
      · go_wp2_with (fail)
        go_meet
        case rel => exact ⟨true, i2, rfl, .inr ⟨rfl, (R1.out.2 rfl).1, (R1.out.2 rfl).2 ▸ R2.out.1 rfl⟩, hi2, HC2.out, HG2.out⟩
    · go_wp2_with (fail)
      go_meet
      case rel => exact ⟨false, i1, rfl, .inl ⟨rfl, R1.out.1 rfl⟩, hi1, HC1.out, HG1.out⟩
  case rest =>
    obtain ⟨nb, i', rfl, hsg, hi', hc', hg'⟩ := hcut
    have SG := hidden hsg
    clear hsg
    have HC' := hidden hc'
    have HG' := hidden hg'
    clear k0 k1 m1 hlt hc' hg'
    go_upto_region 8 with (go_at_call 218; (with_reducible refine (DEC.out _ _ hi' HC'.out).mono ?_); rintro _ w3 ⟨v, ok, i3, rfl, hv, hi3, hc3, hg3⟩)
    have k1 : w3.cell? ⟨cb, 1, none⟩ = some (.int .i64 i3) := cell_of_cells hc3 1
    have m1 := mark_of_cells hc3 1
    have hlt := lt_of_cells hc3
    have HC3 := hidden hc3
    have HG3 := hidden (grown_trans HG'.out hg3)
    have HV := hidden hv
    clear hc3 hg3 hv
    have bad : Hid (CuK cb s i w (w3.setCell ⟨cb, 1, none⟩ (.int .i64 i))) := hidden ⟨hi, by have h := blk_set HC3.out 1 (.int .i64 (i : Int)); simpa [Cu] using h, grown_trans HG3.out (grown_set _ _ _)⟩
    obtain ⟨z, hz⟩ : ∃ z, ((v : Int) == 0) = z := ⟨_, rfl⟩
    have HZ := hidden hz
    cases ok
    · go_wp2_with (fail)
      go_ret2
      exact ⟨0, false, i, rfl, ⟨by simp, fun _ => SG.out.bad (HV.out.2 rfl)⟩, bad.out⟩
    · cases nb
      · go_wp2_with (fail)
        go_ret2
        exact ⟨v, true, i3, rfl, ⟨fun _ => SG.out.pos (HV.out.1 rfl), by simp⟩, hi3, HC3.out, HG3.out⟩
      · cases z
        · go_wp2_with (fail)
          go_ret2
          exact ⟨-(v : Int), true, i3, by rw [neg_wrap v (HV.out.1 rfl).2]; rfl, ⟨fun _ => SG.out.neg (HV.out.1 rfl) (by simpa using HZ.out), by simp⟩, hi3, HC3.out, HG3.out⟩
        · go_wp2_with (fail)
          go_ret2
          exact ⟨0, false, i, rfl, ⟨by simp, fun _ => SG.out.zero (HV.out.1 rfl) (by simpa using HZ.out)⟩, bad.out⟩
end Go.Proofs.Qxb6500680aGreatDoor
