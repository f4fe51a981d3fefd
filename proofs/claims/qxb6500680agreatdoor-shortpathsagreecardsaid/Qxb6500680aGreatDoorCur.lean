import Derived.Test.Qxb6500680aGreatDoorText
namespace Go.Proofs.Qxb6500680aGreatDoor
open Go.RowKit Go.BigFrame
set_option linter.unusedSimpArgs false
attribute [local go_sem] ext_cell_if ext_frozen_if alloc_cell_if alloc_frozen_if ext_size ext_ext
/-- The cursor's block: the text, and a place in it. -/
def Cu (cb : Nat) (s : ByteArray) (i : Nat) (w : World) : Prop := w.heap[cb]? = some (.cells #[.string s, .int .i64 i] 126)
/-- What a step of the cursor leaves behind. -/
def CuOK (cb : Nat) (s : ByteArray) (w w' : World) : Prop := (∃ i : Nat, i ≤ s.size ∧ Cu cb s i w') ∧ w.grownBy w' (some cb)
def LitOK (cb : Nat) (s : ByteArray) (w : World) (e : Ending) (w' : World) : Prop := ∃ b : Bool, e = .returned (.bool b) ∧ CuOK cb s w w'
/-- A step that reads a number. -/
def NumOK (k : IntKind) (cb : Nat) (s : ByteArray) (w : World) (e : Ending) (w' : World) : Prop := ∃ (v : Int) (b : Bool), e = .returned (.tuple #[.int k v, .bool b]) ∧ InR k v ∧ CuOK cb s w w'
set_option maxRecDepth 100000 in
theorem literal_any (cb : Nat) (s lit : ByteArray) (i : Nat) (hs : s.size ≤ 100) (hi : i ≤ s.size) (hl : lit.size ≤ 100) (w : World) (hc : Cu cb s i w) : Calls Tryz.prog 83 #[.pointer (some ⟨cb, 0, none⟩), .string lit] w (LitOK cb s w) := by
  have k0 : w.cell? ⟨cb, 0, none⟩ = some (.string s) := cell_of_cells hc 0
  have k1 : w.cell? ⟨cb, 1, none⟩ = some (.int .i64 i) := cell_of_cells hc 1
  have m1 := mark_of_cells hc 1
  have hlt := lt_of_cells hc
  have HC := hidden hc
  clear hc
  go_enter Tryz.func83, Tryz.ntmps83
  go_upto_region 1 with (fail)
  by_cases c1 : (s.size : Int) - i < lit.size
  · refine wp_region_ext (by kernel_rfl) (by kernel_rfl) ?_
    repeat (go_big_quiet_step ((fail)))
    refine wpQuiet_nil ?_
    rintro w1 ⟨x1, rfl⟩
    go_wp2_with (fail)
    go_ret
    exact ⟨false, rfl, ⟨i, hi, blk_ext HC.out⟩, grown_ext _ _ _⟩
  · refine wp_region_ext (by kernel_rfl) (by kernel_rfl) ?_
    repeat (go_big_quiet_step ((fail)))
    refine wpQuiet_nil ?_
    rintro w1 ⟨x1, rfl⟩
    go_upto_if 37 with (fail)
    obtain ⟨b, hb⟩ : ∃ b, ((s.extract i (i + lit.size)).toList == lit.toList) = b := ⟨_, rfl⟩
    simp only [hb]
    clear hb
    cases b
    · go_wp2_with (fail)
      go_ret
      exact ⟨false, rfl, ⟨i, hi, blk_ext HC.out⟩, grown_ext _ _ _⟩
    · go_wp2_with (fail)
      go_ret
      refine ⟨true, rfl, ⟨i + lit.size, by omega, ?_⟩, grown_trans (grown_ext _ _ _) (grown_set _ _ _)⟩
      have h := blk_set (blk_ext (x := x1) HC.out) 1 (.int .i64 ((i + lit.size : Nat) : Int))
      simpa [Cu] using h
/-- What 'fail' answers: an error that is not nil. -/
def ErrV (v : Value) : Prop := ∃ b : Nat, v = .iface 201 (.pointer (some ⟨b, 0, none⟩))
theorem fail_any (cb : Nat) (s r : ByteArray) (i : Nat) (w : World) (hc : Cu cb s i w) : Calls Tryz.prog 84 #[.pointer (some ⟨cb, 0, none⟩), .string r] w fun e w' => ∃ v, e = .returned v ∧ ErrV v ∧ ∃ x, w' = ext w x := by
  have k0 : w.cell? ⟨cb, 0, none⟩ = some (.string s) := cell_of_cells hc 0
  have k1 : w.cell? ⟨cb, 1, none⟩ = some (.int .i64 i) := cell_of_cells hc 1
  have hlt := lt_of_cells hc
  clear hc
  go_enter Tryz.func84, Tryz.ntmps84
  go_wp2
  go_ret
  exact ⟨_, rfl, ⟨_, rfl⟩, Gr.of (by repeat (first | exact Gr.refl _ | refine Gr.alloc ?_ _ | refine Gr.ext ?_ _ | refine Gr.drew ?_))⟩
theorem bits_in (op : BinOp) (x y : Int) : InR .u64 (bits op .u64 x y) := by
  obtain ⟨U, h, hb⟩ := bits_nat op x y
  rw [h]
  exact u64_in _ (by omega) (by omega)
set_option maxRecDepth 100000 in
theorem hex_any (cb : Nat) (s : ByteArray) (i n : Nat) (hs : s.size ≤ 100) (hi : i ≤ s.size) (hn : n ≤ 100) (w : World) (hc : Cu cb s i w) : Calls Tryz.prog 190 #[.pointer (some ⟨cb, 0, none⟩), .int .i64 n] w (NumOK .u64 cb s w) := by
  have k0 : w.cell? ⟨cb, 0, none⟩ = some (.string s) := cell_of_cells hc 0
  have k1 : w.cell? ⟨cb, 1, none⟩ = some (.int .i64 i) := cell_of_cells hc 1
  have hlt := lt_of_cells hc
  have HC := hidden hc
  clear hc
  go_enter Tryz.func190, Tryz.ntmps190
  go_upto_region 1 with (fail)
  refine wp_region_ext (by kernel_rfl) (by kernel_rfl) ?_
  repeat (go_big_quiet_step ((fail)))
  refine wpQuiet_nil ?_
  rintro w1 ⟨x1, rfl⟩
  by_cases c1 : (s.size : Int) - i < n
  · go_wp2_with (fail)
    go_ret2
    exact ⟨0, false, rfl, u64_in _ (by decide) (by decide), ⟨i, hi, blk_ext HC.out⟩, grown_ext _ _ _⟩
  · go_wp2_with (fail)
    go_loopw [6, 7, 8] (fun s6 s7 _s8 wi => ∃ (v : Int) (j : Nat), s6 = .int .u64 v ∧ InR .u64 v ∧ s7 = .int .i64 j ∧ j ≤ n ∧ ∃ x, wi = ext w x) (fun _ s7 _ _ => (n - intOf s7).toNat)
    case atStart => exact ⟨0, 0, rfl, u64_in _ (by decide) (by decide), rfl, by omega, _, rfl⟩
    case round =>
      obtain ⟨v, j, rfl, hv, rfl, hj, x2, rfl⟩ := hrel
      have HV := hidden hv
      clear hv
      by_cases c2 : j < n
      · obtain ⟨q, hq⟩ : ∃ q : Nat, (i : Int) + j = q := ⟨i + j, by omega⟩
        have hqs : q < s.size := by omega
        go_upto_region 7 with (fail)
        refine wp_region_ext (by kernel_rfl) (by kernel_rfl) ?_
        repeat (go_big_quiet_step ((fail)))
        refine wpQuiet_nil ?_
        rintro w3 ⟨x3, rfl⟩
        obtain ⟨ch, hch, hchb⟩ : ∃ ch : Nat, s[q].toNat = ch ∧ ch < 256 := ⟨_, rfl, s[q].toNat_lt⟩
        simp only [hch]
        clear hch hq hqs
        have go : Hid (∀ (v' : Int) (s8 : Value) (wi : World), InR .u64 v' → (∃ x, wi = ext w x) → (∃ (v : Int) (j' : Nat), Value.int .u64 v' = .int .u64 v ∧ InR .u64 v ∧ Value.int .i64 ((j : Int) + 1) = .int .i64 j' ∧ j' ≤ n ∧ ∃ x, wi = ext w x) ∧ ((n : Int) - intOf (.int .i64 ((j : Int) + 1))).toNat < ((n : Int) - intOf (.int .i64 (j : Int))).toNat) := hidden (fun v' s8 wi hv' hx => ⟨⟨v', j + 1, rfl, hv', rfl, by omega, hx⟩, by simp [intOf]; omega⟩)
        by_cases d1 : 48 ≤ ch ∧ ch ≤ 57
        · obtain ⟨d1, d2⟩ := d1
          go_wp2_with (fail)
          exact go.out _ (.bool true) _ (bits_in _ _ _) ⟨_, rfl⟩
        by_cases d2 : 97 ≤ ch ∧ ch ≤ 102
        · obtain ⟨d2, d3⟩ := d2
          go_wp2_with (fail)
          all_goals exact go.out _ (.bool true) _ (bits_in _ _ _) ⟨_, rfl⟩
        · go_wp2_with (fail)
          all_goals first | (exfalso; omega) | (go_ret2; exact ⟨0, false, rfl, u64_in _ (by decide) (by decide), ⟨i, hi, blk_ext HC.out⟩, grown_ext _ _ _⟩)
      · have m1 := mark_of_cells HC.out 1
        have hjn : j = n := by omega
        subst hjn
        go_wp2_with (fail)
        go_ret2
        refine ⟨v, true, rfl, HV.out, ⟨i + j, by omega, ?_⟩, grown_trans (grown_ext _ _ _) (grown_set _ _ _)⟩
        have h := blk_set (blk_ext (x := x2) HC.out) 1 (.int .i64 ((i + j : Nat) : Int))
        simpa [Cu] using h
theorem i64_in (n : Int) (h0 : -9223372036854775808 ≤ n) (h1 : n ≤ 9223372036854775807) : InR .i64 n := ⟨h0, h1⟩
set_option maxRecDepth 100000 in
set_option maxHeartbeats 4000000 in
theorem decimal_any (cb : Nat) (s : ByteArray) (i : Nat) (hs : s.size ≤ 100) (hi : i ≤ s.size) (w : World) (hc : Cu cb s i w) : Calls Tryz.prog 218 #[.pointer (some ⟨cb, 0, none⟩)] w (NumOK .i64 cb s w) := by
  have k0 : w.cell? ⟨cb, 0, none⟩ = some (.string s) := cell_of_cells hc 0
  have k1 : w.cell? ⟨cb, 1, none⟩ = some (.int .i64 i) := cell_of_cells hc 1
  have hlt := lt_of_cells hc
  have HC := hidden hc
  clear hc
  go_enter Tryz.func218, Tryz.ntmps218
  go_wp2
  clear k0 k1 hlt
  go_loopw [5] (fun s5 wi => ∃ (v : Int) (j : Nat), s5 = .int .i64 v ∧ InR .i64 v ∧ i ≤ j ∧ j ≤ s.size ∧ Cu cb s j wi ∧ w.grownBy wi (some cb)) (fun _ wi => match wi.cell? ⟨cb, 1, none⟩ with | some (.int .i64 z) => (100 - z).toNat | _ => 0)
  case atStart => exact ⟨0, i, rfl, i64_in _ (by decide) (by decide), by omega, by omega, HC.out, grown_refl _ _⟩
  case round =>
    obtain ⟨v, j, rfl, hv, hij, hjs, hcj, hg⟩ := hrel
    have k0 : wr.cell? ⟨cb, 0, none⟩ = some (.string s) := cell_of_cells hcj 0
    have k1 : wr.cell? ⟨cb, 1, none⟩ = some (.int .i64 j) := cell_of_cells hcj 1
    have m1 := mark_of_cells hcj 1
    have hlt := lt_of_cells hcj
    have HV := hidden hv
    have HJ := hidden hcj
    have HG := hidden hg
    clear hv hcj hg HC
    by_cases c1 : j < s.size
    · obtain ⟨ch, hch, hchb⟩ : ∃ ch : Nat, s[j].toNat = ch ∧ ch < 256 := ⟨_, rfl, s[j].toNat_lt⟩
      by_cases c2 : j < i + 4
      · by_cases c3 : 48 ≤ ch
        · by_cases c4 : ch ≤ 57
          · have d2 : decide ((j : Int) - i < 4) = true := by simp; omega
            have d3 : decide (48 ≤ (ch : Int)) = true := by simp; omega
            have d4 : decide ((ch : Int) ≤ 57) = true := by simp; omega
            go_upto_region 3 with (fail)
            refine wp_region_ext (by kernel_rfl) (by kernel_rfl) ?_
            repeat (go_big_quiet_step ((fail)))
            refine wpQuiet_nil ?_
            rintro w1 ⟨x1, rfl⟩
            go_upto_region 4 with (fail)
            refine wp_region_ext (by kernel_rfl) (by kernel_rfl) ?_
            repeat (go_big_quiet_step ((fail)))
            refine wpQuiet_nil ?_
            rintro w2 ⟨x2, rfl⟩
            go_wp2_with (fail)
            have hb := blk_set (blk_ext (x := cat x1 x2) HJ.out) 1 (.int .i64 ((j : Int) + 1))
            have kk : ((ext wr (cat x1 x2)).setCell ⟨cb, 1, none⟩ (.int .i64 ((j : Int) + 1))).cell? ⟨cb, 1, none⟩ = some (.int .i64 ((j : Int) + 1)) := by rw [cell_of_cells hb 1]; rfl
            refine ⟨⟨_, j + 1, rfl, i64_in _ (wrap64_bd _).1 (wrap64_bd _).2, by omega, by omega, by simpa [Cu] using hb, grown_trans HG.out (grown_trans (grown_ext _ _ _) (grown_set _ _ _))⟩, ?_⟩
            rw [kk, k1]
            show ((100 : Int) - ((j : Int) + 1)).toNat < ((100 : Int) - (j : Int)).toNat
            omega
          · have d2 : decide ((j : Int) - i < 4) = true := by simp; omega
            have d3 : decide (48 ≤ (ch : Int)) = true := by simp; omega
            have d4 : decide ((ch : Int) ≤ 57) = false := by simp; omega
            go_upto_region 3 with (fail)
            refine wp_region_ext (by kernel_rfl) (by kernel_rfl) ?_
            repeat (go_big_quiet_step ((fail)))
            refine wpQuiet_nil ?_
            rintro w1 ⟨x1, rfl⟩
            clear d2 d3 d4
            by_cases e1 : j = i
            · subst e1
              go_wp2_with (fail)
              go_ret2
              exact ⟨0, false, rfl, i64_in _ (by decide) (by decide), ⟨j, by omega, by have h := blk_set (blk_ext (x := x1) HJ.out) 1 (.int .i64 (j : Int)); simpa [Cu] using h⟩, grown_trans HG.out (grown_trans (grown_ext _ _ _) (grown_set _ _ _))⟩
            by_cases e2 : j = i + 1
            · subst e2
              go_wp2_with (fail)
              go_ret2
              exact ⟨v, true, rfl, HV.out, ⟨i + 1, by omega, blk_ext HJ.out⟩, grown_trans HG.out (grown_ext _ _ _)⟩
            have e3 : i < s.size := by omega
            obtain ⟨c0, hc0, hc0b⟩ : ∃ c0 : Nat, s[i].toNat = c0 ∧ c0 < 256 := ⟨_, rfl, s[i].toNat_lt⟩
            have e4 : (((j : Int) - i) == 0) = false := by rw [beq_eq_false_iff_ne]; omega
            have e7 : decide (1 < (j : Int) - i) = true := by simp; omega
            by_cases e5 : c0 = 48
            · subst e5
              go_wp2_with (fail)
              go_ret2
              exact ⟨0, false, rfl, i64_in _ (by decide) (by decide), ⟨i, by omega, by have h := blk_set (blk_ext (x := x1) HJ.out) 1 (.int .i64 (i : Int)); simpa [Cu] using h⟩, grown_trans HG.out (grown_trans (grown_ext _ _ _) (grown_set _ _ _))⟩
            · have e6 : ((c0 : Int) == 48) = false := by rw [beq_eq_false_iff_ne]; omega
              go_wp2_with (fail)
              go_ret2
              exact ⟨v, true, rfl, HV.out, ⟨j, by omega, blk_ext HJ.out⟩, grown_trans HG.out (grown_ext _ _ _)⟩
        · have d2 : decide ((j : Int) - i < 4) = true := by simp; omega
          have d3 : decide (48 ≤ (ch : Int)) = false := by simp; omega
          go_upto_region 3 with (fail)
          refine wp_region_ext (by kernel_rfl) (by kernel_rfl) ?_
          repeat (go_big_quiet_step ((fail)))
          refine wpQuiet_nil ?_
          rintro w1 ⟨x1, rfl⟩
          clear d2 d3
          by_cases e1 : j = i
          · subst e1
            go_wp2_with (fail)
            go_ret2
            exact ⟨0, false, rfl, i64_in _ (by decide) (by decide), ⟨j, by omega, by have h := blk_set (blk_ext (x := x1) HJ.out) 1 (.int .i64 (j : Int)); simpa [Cu] using h⟩, grown_trans HG.out (grown_trans (grown_ext _ _ _) (grown_set _ _ _))⟩
          by_cases e2 : j = i + 1
          · subst e2
            go_wp2_with (fail)
            go_ret2
            exact ⟨v, true, rfl, HV.out, ⟨i + 1, by omega, blk_ext HJ.out⟩, grown_trans HG.out (grown_ext _ _ _)⟩
          have e3 : i < s.size := by omega
          obtain ⟨c0, hc0, hc0b⟩ : ∃ c0 : Nat, s[i].toNat = c0 ∧ c0 < 256 := ⟨_, rfl, s[i].toNat_lt⟩
          have e4 : (((j : Int) - i) == 0) = false := by rw [beq_eq_false_iff_ne]; omega
          have e7 : decide (1 < (j : Int) - i) = true := by simp; omega
          by_cases e5 : c0 = 48
          · subst e5
            go_wp2_with (fail)
            go_ret2
            exact ⟨0, false, rfl, i64_in _ (by decide) (by decide), ⟨i, by omega, by have h := blk_set (blk_ext (x := x1) HJ.out) 1 (.int .i64 (i : Int)); simpa [Cu] using h⟩, grown_trans HG.out (grown_trans (grown_ext _ _ _) (grown_set _ _ _))⟩
          · have e6 : ((c0 : Int) == 48) = false := by rw [beq_eq_false_iff_ne]; omega
            go_wp2_with (fail)
            go_ret2
            exact ⟨v, true, rfl, HV.out, ⟨j, by omega, blk_ext HJ.out⟩, grown_trans HG.out (grown_ext _ _ _)⟩
      · have d2 : decide ((j : Int) - i < 4) = false := by simp; omega
        go_upto_region 3 with (fail)
        refine wp_region_ext (by kernel_rfl) (by kernel_rfl) ?_
        repeat (go_big_quiet_step ((fail)))
        refine wpQuiet_nil ?_
        rintro w1 ⟨x1, rfl⟩
        clear d2 hch hchb
        have e1 : ¬ j = i := by omega
        have e2 : ¬ j = i + 1 := by omega
        have e3 : i < s.size := by omega
        obtain ⟨c0, hc0, hc0b⟩ : ∃ c0 : Nat, s[i].toNat = c0 ∧ c0 < 256 := ⟨_, rfl, s[i].toNat_lt⟩
        have e4 : (((j : Int) - i) == 0) = false := by rw [beq_eq_false_iff_ne]; omega
        have e7 : decide (1 < (j : Int) - i) = true := by simp; omega
        by_cases e5 : c0 = 48
        · subst e5
          go_wp2_with (fail)
          go_ret2
          exact ⟨0, false, rfl, i64_in _ (by decide) (by decide), ⟨i, by omega, by have h := blk_set (blk_ext (x := x1) HJ.out) 1 (.int .i64 (i : Int)); simpa [Cu] using h⟩, grown_trans HG.out (grown_trans (grown_ext _ _ _) (grown_set _ _ _))⟩
        · have e6 : ((c0 : Int) == 48) = false := by rw [beq_eq_false_iff_ne]; omega
          go_wp2_with (fail)
          go_ret2
          exact ⟨v, true, rfl, HV.out, ⟨j, by omega, blk_ext HJ.out⟩, grown_trans HG.out (grown_ext _ _ _)⟩
    · go_upto_region 3 with (fail)
      refine wp_region_ext (by kernel_rfl) (by kernel_rfl) ?_
      repeat (go_big_quiet_step ((fail)))
      refine wpQuiet_nil ?_
      rintro w1 ⟨x1, rfl⟩
      by_cases e1 : j = i
      · subst e1
        go_wp2_with (fail)
        go_ret2
        exact ⟨0, false, rfl, i64_in _ (by decide) (by decide), ⟨j, by omega, by have h := blk_set (blk_ext (x := x1) HJ.out) 1 (.int .i64 (j : Int)); simpa [Cu] using h⟩, grown_trans HG.out (grown_trans (grown_ext _ _ _) (grown_set _ _ _))⟩
      by_cases e2 : j = i + 1
      · subst e2
        go_wp2_with (fail)
        go_ret2
        exact ⟨v, true, rfl, HV.out, ⟨i + 1, by omega, blk_ext HJ.out⟩, grown_trans HG.out (grown_ext _ _ _)⟩
      have e3 : i < s.size := by omega
      obtain ⟨c0, hc0, hc0b⟩ : ∃ c0 : Nat, s[i].toNat = c0 ∧ c0 < 256 := ⟨_, rfl, s[i].toNat_lt⟩
      have e4 : (((j : Int) - i) == 0) = false := by rw [beq_eq_false_iff_ne]; omega
      have e7 : decide (1 < (j : Int) - i) = true := by simp; omega
      by_cases e5 : c0 = 48
      · subst e5
        go_wp2_with (fail)
        go_ret2
        exact ⟨0, false, rfl, i64_in _ (by decide) (by decide), ⟨i, by omega, by have h := blk_set (blk_ext (x := x1) HJ.out) 1 (.int .i64 (i : Int)); simpa [Cu] using h⟩, grown_trans HG.out (grown_trans (grown_ext _ _ _) (grown_set _ _ _))⟩
      · have e6 : ((c0 : Int) == 48) = false := by rw [beq_eq_false_iff_ne]; omega
        go_wp2_with (fail)
        go_ret2
        exact ⟨v, true, rfl, HV.out, ⟨j, by omega, blk_ext HJ.out⟩, grown_trans HG.out (grown_ext _ _ _)⟩
end Go.Proofs.Qxb6500680aGreatDoor
