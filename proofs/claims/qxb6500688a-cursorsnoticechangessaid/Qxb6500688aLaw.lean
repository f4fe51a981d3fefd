import Derived.Test.Qxb6500688aLk
namespace Go.Proofs.Qxb6500688a
open Go.RowKit Go.BigFrame
set_option linter.unusedSimpArgs false
attribute [local go_sem] ext_cell_if ext_frozen_if alloc_cell_if alloc_frozen_if ext_size ext_ext
set_option maxRecDepth 100000 in
set_option maxHeartbeats 2000000 in
theorem law_any (v : Value) (n : Nat) (w : World) (hs : Script w v n) (hn : n ≤ 9223372036854775807) : Calls Try.prog 3 #[v] w fun e w' => e = .returned (.bool true) ∧ ∃ x, w' = ext w x := by
  have SM := hidden (small_any v n w hs hn)
  have HS := hidden hs
  obtain ⟨a, c, rfl, _⟩ := hs
  obtain ⟨C, hC⟩ : ∃ C, w.heap.size = C := ⟨_, rfl⟩
  have NW := hidden (new_any w)
  rw [hC] at NW
  have HC := hidden hC
  clear hC
  go_enter Try.func3, Try.ntmps3
  go_wp2_with (first
    | (go_at_call 4; (with_reducible refine SM.out.mono ?_); rintro _ w ⟨hsm, rfl⟩; obtain ⟨sb, rfl, hsb⟩ := hsm.b; have HSB := hidden hsb; clear hsm hsb)
    | (go_at_call 5; (with_reducible refine NW.out.mono ?_); rintro _ w1 ⟨rfl, hg1, hx1⟩; have HG1 := hidden hg1; have HX1 := hidden hx1; clear hg1 hx1))
  · go_ret
    exact ⟨rfl, (Gr.refl w).of⟩
  · have hsb : sb = true := by simpa using ‹(!sb) = false›
    obtain ⟨hn16, hshort⟩ := HSB.out hsb
    have HSH := hidden hshort
    subst hsb
    clear hshort SM NW HSB
    go_loopw [16] (fun s16 wi => ∃ i : Nat, s16 = .int .i64 i ∧ i ≤ n ∧ ∃ (t : T) (ver : Int), Ix wi C t ver ∧ Gr C w wi ∧ ∀ b ∈ t.blocks, C ≤ b) (fun s16 _ => n - (intOf s16).toNat)
    case atStart => exact ⟨0, rfl, by omega, .nil, 0, HX1.out, HG1.out, by simp [T.blocks, T.seq]⟩
    case round =>
      clear HX1 HG1
      obtain ⟨i, rfl, hin, t, ver, hx, hg, hbl⟩ := hrel
      have HX := hidden hx
      have HG := hidden hg
      have HBL := hidden hbl
      have hsz := hx.sz
      clear hbl
      by_cases hlt : i < n
      · obtain ⟨a', c', e', hs0⟩ := HS.out
        obtain ⟨b, off, e2, hb, hall⟩ := hs0 (by omega)
        simp at e'
        obtain ⟨rfl, rfl⟩ := e'
        subst e2
        obtain ⟨k, lo, hi, da, db, ln, ha, hm, hc, c0, c1, c2, c3, c4, c5, c6, hk, hlo, hhi, hda, hdb, hln, _, hhk⟩ := hall i hlt
        have hm16 := HSH.out _ _ _ _ rfl i hlt _ _ _ c3
        have hbC : b < C := by rw [← HC.out]; exact hb
        have kp : ∀ o, wr.cell? ⟨b, o, none⟩ = w.cell? ⟨b, o, none⟩ := fun o => hg.1.cell (p := ⟨b, o, none⟩) hbC
        rw [← kp] at c0 c1 c2 c3 c4 c5 c6
        obtain ⟨D, hD⟩ : ∃ D, wr.heap.size = D := ⟨_, rfl⟩
        have hCD : C ≤ D := by rw [← hD]; exact hg.2
        have hx2 : Ix (wr.alloc (.cells #[.int .u8 k, .int .i64 lo, .int .i64 hi, .slice ha hm hc, .int .i64 da, .int .i64 db, .int .i64 ln] 29)) C t ver := hx.gr ((Gr.refl wr).alloc _)
        have AL := hidden (appendAll_any C t ver _ hx2)
        have CU : Hid (∀ w3, Gr (wr.alloc (.cells #[.int .u8 k, .int .i64 lo, .int .i64 hi, .slice ha hm hc, .int .i64 da, .int .i64 db, .int .i64 ln] 29)).heap.size (wr.alloc (.cells #[.int .u8 k, .int .i64 lo, .int .i64 hi, .slice ha hm hc, .int .i64 da, .int .i64 db, .int .i64 ln] 29)) w3 → Calls Try.prog 7 #[.pointer (some ⟨C, 0, none⟩), .int .i64 ((t.sz : Int) / 2)] w3 fun e w' => e = .returned (.pointer (some ⟨w3.heap.size, 0, none⟩)) ∧ Gr w3.heap.size w3 w' ∧ Cm w3.heap.size w' C ver t) := fun w3 h3 => by
          rw [show (t.sz : Int) / 2 = ((t.sz / 2 : Nat) : Int) by omega]
          exact cur_mid C t ver w3 (hx2.gr h3)
        have HHK := hidden hhk
        clear hall kp hx hg hx2 hhk
        go_upto_region 8 with (go_at_call 6; (with_reducible refine AL.out.mono ?_); rintro _ w3 ⟨ra, rc, rfl, hg3, ho3⟩; have HG3 := hidden hg3; have HO3 := hidden ho3; have CV := hidden (CU.out w3 hg3); clear hg3 ho3)
        go_upto_region 9 with (go_at_call 7; (with_reducible refine CV.out.mono ?_); rintro _ w4 ⟨rfl, hg4, hcm⟩; have HG4 := hidden hg4; have HCM := hidden hcm; clear hg4 hcm)
        obtain ⟨cb, hcb⟩ : ∃ cb, w3.heap.size = cb := ⟨_, rfl⟩
        rw [hcb] at HCM ⊢
        have g14 : Gr (D + 1) (wr.alloc (.cells #[.int .u8 k, .int .i64 lo, .int .i64 hi, .slice ha hm hc, .int .i64 da, .int .i64 db, .int .i64 ln] 29)) w4 := by
          have := HG3.out.step HG4.out HG3.out.2
          simpa [hD] using this
        refine wp_gen (fun W => Gr C w W ∧ Ix W C t ver ∧ W.heap[D]? = some (.cells #[.int .u8 k, .int .i64 lo, .int .i64 hi, .slice ha hm hc, .int .i64 da, .int .i64 db, .int .i64 ln] 29) ∧ W.ownsRow C 41 4 (.slice ra t.sz rc) t.sz (hs t.seq t.sz) ∧ Cm cb W C ver t) ⟨(HG.out.alloc _).step g14 (by omega), ?_, ?_, ?_, HCM.out⟩ ?_
        · exact (HX.out.gr ((Gr.refl wr).alloc _)).gr (by simpa [hD] using g14)
        · exact (g14.1.block D (by omega)).trans (by rw [← hD]; exact heap_new _ _)
        · exact own_mono (own_move HO3.out fun g hg => HG4.out.1.block g (HO3.out.lt g hg).2) (by simp; omega)
        clear c0 c1 c2 c3 c4 c5 c6 AL CU CV HG3 HO3 HG4 HCM g14 HX HG hcb
        clear w3 w4
        rintro w4 ⟨hg4, hx4, hv4, ho4, hcm4⟩
        have HG4 := hidden hg4
        have HX4 := hidden hx4
        have HV4 := hidden hv4
        have HO4 := hidden ho4
        have HCM := hidden hcm4
        have c0 := cell_of_cells hv4 0
        have c1 := cell_of_cells hv4 1
        have c2 := cell_of_cells hv4 2
        have c3 := cell_of_cells hv4 3
        have c4 := cell_of_cells hv4 4
        have c5 := cell_of_cells hv4 5
        have c6 := cell_of_cells hv4 6
        have hDw := lt_of_cells hv4
        simp at c0 c1 c2 c3 c4 c5 c6
        have PL := hidden (play_any C t ver k lo hi da db ln ha hm hc w4 hx4 (HHK.out.gr (by rw [HC.out]; exact hg4)) hm16 hk.1 hhi)
        clear hg4 hx4 hv4 ho4 hcm4 hD
        go_upto_region 10 with (go_at_call 8; (with_reducible refine PL.out.mono ?_); rintro _ w5 ⟨n', pi, pA, pB, pb, pa, pm, pc, rfl, hpd⟩; have HPD := hidden hpd; clear hpd)
        obtain ⟨E, hE⟩ : ∃ E, w5.heap.size = E := ⟨_, rfl⟩
        rw [hE]
        have kpt := HPD.out.keep HX4.out
        have hcu5 := HCM.out
        obtain ⟨path, i', x, y, z, u, hcu4, hcm1, hcm2⟩ := hcu5
        have hcu6 : Cu cb (w5.alloc (.cells #[.int .u8 n', .int .i64 pi, .bool pb, .int .i64 pA, .int .i64 pB, .slice pa pm pc] 37)) cb C ver path i' x y z u := hcu4.kept fun g cs ty h1 h2 h3 => blk_alloc (kpt g cs ty h1 h2 h3)
        have ho6 : (w5.alloc (.cells #[.int .u8 n', .int .i64 pi, .bool pb, .int .i64 pA, .int .i64 pB, .slice pa pm pc] 37)).ownsRow C 41 4 (.slice ra t.sz rc) t.sz (hs t.seq t.sz) := own_kept HO4.out fun g cs ty h1 h2 h3 => blk_alloc (kpt g cs ty h1 h2 h3)
        have hv6 : (w5.alloc (.cells #[.int .u8 n', .int .i64 pi, .bool pb, .int .i64 pA, .int .i64 pB, .slice pa pm pc] 37)).heap[D]? = some (.cells #[.int .u8 k, .int .i64 lo, .int .i64 hi, .slice ha hm hc, .int .i64 da, .int .i64 db, .int .i64 ln] 29) := blk_alloc (kpt D _ _ (by decide) (by decide) HV4.out)
        have he6 : (w5.alloc (.cells #[.int .u8 n', .int .i64 pi, .bool pb, .int .i64 pA, .int .i64 pB, .slice pa pm pc] 37)).heap[E]? = some (.cells #[.int .u8 n', .int .i64 pi, .bool pb, .int .i64 pA, .int .i64 pB, .slice pa pm pc] 37) := by rw [← hE]; exact heap_new _ _
        have chg : ∀ w', Ch C t ver w4.heap.size w4 w' → ∃ t', Ix (w'.alloc (.cells #[.int .u8 n', .int .i64 pi, .bool pb, .int .i64 pA, .int .i64 pB, .slice pa pm pc] 37)) C t' (IntKind.u64.wrap (ver + 1)) ∧ Gr C w (w'.alloc (.cells #[.int .u8 n', .int .i64 pi, .bool pb, .int .i64 pA, .int .i64 pB, .slice pa pm pc] 37)) ∧ ∀ b ∈ t'.blocks, C ≤ b := fun w' ⟨t', h1, h2, h3⟩ =>
          ⟨t', h1.gr ((Gr.refl w').alloc _), (h2.2.2 C w HG4.out (fun g hg => by simp at hg; rcases hg with rfl | hg; exact Nat.le_refl _; exact HBL.out g hg)).alloc _, fun b hb => by rcases h3 b hb with h4 | h4; exact HBL.out b h4; have := HG4.out.2; omega⟩
        have kep : ∀ w', Gr w4.heap.size w4 w' → Ix (w'.alloc (.cells #[.int .u8 n', .int .i64 pi, .bool pb, .int .i64 pA, .int .i64 pB, .slice pa pm pc] 37)) C t ver ∧ Gr C w (w'.alloc (.cells #[.int .u8 n', .int .i64 pi, .bool pb, .int .i64 pA, .int .i64 pB, .slice pa pm pc] 37)) ∧ ∀ b ∈ t.blocks, C ≤ b := fun w' h =>
          ⟨(HX4.out.gr h).gr ((Gr.refl w').alloc _), (HG4.out.step h HG4.out.2).alloc _, HBL.out⟩
        have CHP : ((k = 0 ∨ k = 1 ∨ k = 2) ∧ n' = 0) ∨ k = 7 → Ch C t ver w4.heap.size w4 w5 := fun hcond => by
          rcases HPD.out with ⟨h1, ⟨h2, h3⟩ | ⟨h2, h3⟩⟩ | ⟨h1, h3⟩ | ⟨h1, h2, h3⟩
          · exact h3
          · omega
          · exact h3
          · omega
        have KPP : ((k = 0 ∨ k = 1 ∨ k = 2) ∧ n' ≠ 0) ∨ (k ≠ 0 ∧ k ≠ 1 ∧ k ≠ 2 ∧ k ≠ 7) → Gr w4.heap.size w4 w5 := fun hcond => by
          rcases HPD.out with ⟨h1, ⟨h2, h3⟩ | ⟨h2, h3⟩⟩ | ⟨h1, h3⟩ | ⟨h1, h2, h3⟩
          · omega
          · exact h3
          · omega
          · exact h3
        refine wp_gen (fun W => Cu cb W cb C ver path i' x y z u ∧ W.ownsRow C 41 4 (.slice ra t.sz rc) t.sz (hs t.seq t.sz) ∧ W.heap[D]? = some (.cells #[.int .u8 k, .int .i64 lo, .int .i64 hi, .slice ha hm hc, .int .i64 da, .int .i64 db, .int .i64 ln] 29) ∧ W.heap[E]? = some (.cells #[.int .u8 n', .int .i64 pi, .bool pb, .int .i64 pA, .int .i64 pB, .slice pa pm pc] 37) ∧
          (((k = 0 ∨ k = 1 ∨ k = 2) ∧ n' = 0) ∨ k = 7 → ∃ t', Ix W C t' (IntKind.u64.wrap (ver + 1)) ∧ Gr C w W ∧ ∀ b ∈ t'.blocks, C ≤ b) ∧ (((k = 0 ∨ k = 1 ∨ k = 2) ∧ n' ≠ 0) ∨ (k ≠ 0 ∧ k ≠ 1 ∧ k ≠ 2 ∧ k ≠ 7) → Ix W C t ver ∧ Gr C w W ∧ ∀ b ∈ t.blocks, C ≤ b)) ⟨hcu6, ho6, hv6, he6, fun h => chg w5 (CHP h), fun h => kep w5 (KPP h)⟩ ?_
        clear c0 c1 c2 c3 c4 c5 c6 hDw PL HPD HV4 HO4 HCM HG4 HX4 HBL kpt hcu4 hcu6 ho6 hv6 he6 chg kep CHP KPP hE
        clear w5
        clear w4
        rintro w6 ⟨hcu6, ho6, hv6, he6, hch, hkp⟩
        have HCU6 := hidden hcu6
        have CH := hidden hch
        have KP := hidden hkp
        obtain ⟨q, hq⟩ : ∃ q : Nat, (t.sz : Int) / 2 = q := ⟨t.sz / 2, by omega⟩
        have BT : Hid (0 < t.sz → ∃ (R : Nat) (x y z u : Int), ra = some ⟨R, 0, none⟩ ∧ R < w6.heap.size ∧ w6.cell? ⟨R, q * 4, none⟩ = some (.int .i64 x) ∧ w6.cell? ⟨R, q * 4 + 1, none⟩ = some (.int .i64 y) ∧ w6.cell? ⟨R, q * 4 + 2, none⟩ = some (.int .i64 z) ∧ w6.cell? ⟨R, q * 4 + 3, none⟩ = some (.int .i64 u) ∧
            (Ix w6 C t ver → ∀ o, Calls Try.prog 9 #[.pointer (some ⟨cb, 0, none⟩)] (ext w6 o) fun e w' => e = .returned (.bool true) ∧ ∃ o', w' = ext (ext w6 o) o') ∧
            (∀ o, Calls Try.prog 12 #[.pointer (some ⟨cb, 0, none⟩)] (ext w6 o) fun e w' => e = .returned (.agg #[.int .i64 x, .int .i64 y, .int .i64 z, .int .i64 u]) ∧ ∃ o', w' = ext (ext w6 o) o')) := fun h0 => by
          obtain ⟨hpn, p, hp, rfl, rfl, rfl, rfl⟩ := hcm1 h0
          obtain rfl : q = t.sz / 2 := by omega
          obtain ⟨s0, s1, s2, s3⟩ := hs_at t.seq (t.sz / 2) p hp t.sz (by omega) (by rw [T.sz_seq]; exact Nat.le_refl _)
          rcases ho6.2 with ⟨e1, e2⟩ | ⟨R, cap, cur, e1, _, e3, _⟩
          · omega
          · simp at e1
            obtain ⟨rfl, rfl⟩ := e1
            have cl : ∀ o, o < t.sz * 4 → w6.cell? ⟨R, o, none⟩ = (hs t.seq t.sz)[o]? := fun o ho => ho6.cellAt o ho
            refine ⟨R, _, _, _, _, rfl, lt_of_cells e3, (cl _ (by omega)).trans s0, (cl _ (by omega)).trans s1, (cl _ (by omega)).trans s2, (cl _ (by omega)).trans s3, fun hx o => ?_, fun o => ?_⟩
            · refine (valid_any cb cb C t ver ver path i' _ _ _ _ (ext w6 o) (hcu6.kept fun g cs ty _ _ h => blk_ext h) (blk_ext hx.cell)).mono ?_
              rintro e w' ⟨hV, o', rfl⟩
              exact ⟨hV.2 hpn rfl, o', rfl⟩
            · exact hunk_any cb cb C ver path i' _ _ _ _ (ext w6 o) (hcu6.kept fun g cs ty _ _ h => blk_ext h)
        have c0 := cell_of_cells hv6 0
        have f0 := cell_of_cells he6 0
        have hDw := lt_of_cells hv6
        have hEw := lt_of_cells he6
        simp at c0 f0
        clear hcm1 hcm2 hcu6 ho6 hv6 he6 hch hkp
        by_cases k0 : k = 0
        · subst k0
          by_cases hn0 : n' = 0
          · subst hn0
            obtain ⟨t', HX6, HG6, HB6⟩ := CH.out (.inl ⟨by simp, rfl⟩)
            have HX6 := hidden HX6
            have HG6 := hidden HG6
            have HB6 := hidden HB6
            have HNE := hidden (u64_next ver).symm
            have VA := hidden (valid_any cb cb C t' ver _ path i' x y z u w6 HCU6.out HX6.out.cell)
            have NX := hidden (fun q => stale_next cb cb C t' ver _ path i' x y z u (ext w6 q) (HCU6.out.kept fun g cs ty _ _ h => blk_ext h) (blk_ext HX6.out.cell) (.inr HNE.out))
            have PX := hidden (fun q => stale_prev cb cb C t' ver _ path i' x y z u (ext w6 q) (HCU6.out.kept fun g cs ty _ _ h => blk_ext h) (blk_ext HX6.out.cell) (.inr HNE.out))
            go_wp2_with (first
              | (go_at_call 9; (with_reducible refine VA.out.mono ?_); rintro _ _ ⟨hV, x1, rfl⟩; obtain rfl := hV.1 (.inr HNE.out); clear hV)
              | (go_at_call 10; (with_reducible refine (NX.out _).mono ?_); rintro _ _ ⟨rfl, x2, rfl⟩)
              | (go_at_call 11; (with_reducible refine (PX.out _).mono ?_); rintro _ _ ⟨rfl, x3, rfl⟩))
            exact ⟨⟨i + 1, by go_num, by omega, t', _, HX6.out.gr ((Gr.refl w6).ext _), HG6.out.ext _, HB6.out⟩, by simp [intOf]; omega⟩
          · have hnb : (n' == 0) = false := by simp [hn0]
            obtain ⟨HX6, HG6, HB6⟩ := KP.out (.inl ⟨by simp, hn0⟩)
            have HX6 := hidden HX6
            have HG6 := hidden HG6
            have HB6 := hidden HB6
            by_cases hz : t.sz = 0
            · go_wp2_with (fail)
              exact ⟨⟨i + 1, by go_num, by omega, t, _, HX6.out, HG6.out, HB6.out⟩, by simp [intOf]; omega⟩
            · have hz' : 0 < t.sz := by omega
              obtain ⟨R, x, y, z, u, hra, hRw, d0, d1, d2, d3, VT, HU⟩ := BT.out hz'
              subst hra
              go_upto_region 15 with (fail)
              refine wp_region_ext (by kernel_rfl) (by kernel_rfl) ?_
              repeat (go_big_quiet_step ((first | (go_at_call 9; first | exact Calls_ext (VT HX6.out _) | exact Calls_ext2 (VT HX6.out _)) | (go_at_call 12; first | exact Calls_ext (HU _) | exact Calls_ext2 (HU _)))))
              refine wpQuiet_nil ?_
              rintro w7 ⟨o, rfl⟩
              go_wp2_with (fail)
              exact ⟨⟨i + 1, by go_num, by omega, t, ver, HX6.out.gr ((Gr.refl w6).ext o), HG6.out.ext o, HB6.out⟩, by simp [intOf]; omega⟩
        by_cases k1 : k = 1
        · subst k1
          by_cases hn0 : n' = 0
          · subst hn0
            obtain ⟨t', HX6, HG6, HB6⟩ := CH.out (.inl ⟨by simp, rfl⟩)
            have HX6 := hidden HX6
            have HG6 := hidden HG6
            have HB6 := hidden HB6
            have HNE := hidden (u64_next ver).symm
            have VA := hidden (valid_any cb cb C t' ver _ path i' x y z u w6 HCU6.out HX6.out.cell)
            have NX := hidden (fun q => stale_next cb cb C t' ver _ path i' x y z u (ext w6 q) (HCU6.out.kept fun g cs ty _ _ h => blk_ext h) (blk_ext HX6.out.cell) (.inr HNE.out))
            have PX := hidden (fun q => stale_prev cb cb C t' ver _ path i' x y z u (ext w6 q) (HCU6.out.kept fun g cs ty _ _ h => blk_ext h) (blk_ext HX6.out.cell) (.inr HNE.out))
            go_wp2_with (first
              | (go_at_call 9; (with_reducible refine VA.out.mono ?_); rintro _ _ ⟨hV, x1, rfl⟩; obtain rfl := hV.1 (.inr HNE.out); clear hV)
              | (go_at_call 10; (with_reducible refine (NX.out _).mono ?_); rintro _ _ ⟨rfl, x2, rfl⟩)
              | (go_at_call 11; (with_reducible refine (PX.out _).mono ?_); rintro _ _ ⟨rfl, x3, rfl⟩))
            exact ⟨⟨i + 1, by go_num, by omega, t', _, HX6.out.gr ((Gr.refl w6).ext _), HG6.out.ext _, HB6.out⟩, by simp [intOf]; omega⟩
          · have hnb : (n' == 0) = false := by simp [hn0]
            obtain ⟨HX6, HG6, HB6⟩ := KP.out (.inl ⟨by simp, hn0⟩)
            have HX6 := hidden HX6
            have HG6 := hidden HG6
            have HB6 := hidden HB6
            by_cases hz : t.sz = 0
            · go_wp2_with (fail)
              exact ⟨⟨i + 1, by go_num, by omega, t, _, HX6.out, HG6.out, HB6.out⟩, by simp [intOf]; omega⟩
            · have hz' : 0 < t.sz := by omega
              obtain ⟨R, x, y, z, u, hra, hRw, d0, d1, d2, d3, VT, HU⟩ := BT.out hz'
              subst hra
              go_upto_region 15 with (fail)
              refine wp_region_ext (by kernel_rfl) (by kernel_rfl) ?_
              repeat (go_big_quiet_step ((first | (go_at_call 9; first | exact Calls_ext (VT HX6.out _) | exact Calls_ext2 (VT HX6.out _)) | (go_at_call 12; first | exact Calls_ext (HU _) | exact Calls_ext2 (HU _)))))
              refine wpQuiet_nil ?_
              rintro w7 ⟨o, rfl⟩
              go_wp2_with (fail)
              exact ⟨⟨i + 1, by go_num, by omega, t, ver, HX6.out.gr ((Gr.refl w6).ext o), HG6.out.ext o, HB6.out⟩, by simp [intOf]; omega⟩
        by_cases k2 : k = 2
        · subst k2
          by_cases hn0 : n' = 0
          · subst hn0
            obtain ⟨t', HX6, HG6, HB6⟩ := CH.out (.inl ⟨by simp, rfl⟩)
            have HX6 := hidden HX6
            have HG6 := hidden HG6
            have HB6 := hidden HB6
            have HNE := hidden (u64_next ver).symm
            have VA := hidden (valid_any cb cb C t' ver _ path i' x y z u w6 HCU6.out HX6.out.cell)
            have NX := hidden (fun q => stale_next cb cb C t' ver _ path i' x y z u (ext w6 q) (HCU6.out.kept fun g cs ty _ _ h => blk_ext h) (blk_ext HX6.out.cell) (.inr HNE.out))
            have PX := hidden (fun q => stale_prev cb cb C t' ver _ path i' x y z u (ext w6 q) (HCU6.out.kept fun g cs ty _ _ h => blk_ext h) (blk_ext HX6.out.cell) (.inr HNE.out))
            go_wp2_with (first
              | (go_at_call 9; (with_reducible refine VA.out.mono ?_); rintro _ _ ⟨hV, x1, rfl⟩; obtain rfl := hV.1 (.inr HNE.out); clear hV)
              | (go_at_call 10; (with_reducible refine (NX.out _).mono ?_); rintro _ _ ⟨rfl, x2, rfl⟩)
              | (go_at_call 11; (with_reducible refine (PX.out _).mono ?_); rintro _ _ ⟨rfl, x3, rfl⟩))
            exact ⟨⟨i + 1, by go_num, by omega, t', _, HX6.out.gr ((Gr.refl w6).ext _), HG6.out.ext _, HB6.out⟩, by simp [intOf]; omega⟩
          · have hnb : (n' == 0) = false := by simp [hn0]
            obtain ⟨HX6, HG6, HB6⟩ := KP.out (.inl ⟨by simp, hn0⟩)
            have HX6 := hidden HX6
            have HG6 := hidden HG6
            have HB6 := hidden HB6
            by_cases hz : t.sz = 0
            · go_wp2_with (fail)
              exact ⟨⟨i + 1, by go_num, by omega, t, _, HX6.out, HG6.out, HB6.out⟩, by simp [intOf]; omega⟩
            · have hz' : 0 < t.sz := by omega
              obtain ⟨R, x, y, z, u, hra, hRw, d0, d1, d2, d3, VT, HU⟩ := BT.out hz'
              subst hra
              go_upto_region 15 with (fail)
              refine wp_region_ext (by kernel_rfl) (by kernel_rfl) ?_
              repeat (go_big_quiet_step ((first | (go_at_call 9; first | exact Calls_ext (VT HX6.out _) | exact Calls_ext2 (VT HX6.out _)) | (go_at_call 12; first | exact Calls_ext (HU _) | exact Calls_ext2 (HU _)))))
              refine wpQuiet_nil ?_
              rintro w7 ⟨o, rfl⟩
              go_wp2_with (fail)
              exact ⟨⟨i + 1, by go_num, by omega, t, ver, HX6.out.gr ((Gr.refl w6).ext o), HG6.out.ext o, HB6.out⟩, by simp [intOf]; omega⟩
        by_cases k7 : k = 7
        · subst k7
          obtain ⟨t', HX6, HG6, HB6⟩ := CH.out (.inr rfl)
          have HX6 := hidden HX6
          have HG6 := hidden HG6
          have HB6 := hidden HB6
          have HNE := hidden (u64_next ver).symm
          have VA := hidden (valid_any cb cb C t' ver _ path i' x y z u w6 HCU6.out HX6.out.cell)
          have NX := hidden (fun q => stale_next cb cb C t' ver _ path i' x y z u (ext w6 q) (HCU6.out.kept fun g cs ty _ _ h => blk_ext h) (blk_ext HX6.out.cell) (.inr HNE.out))
          have PX := hidden (fun q => stale_prev cb cb C t' ver _ path i' x y z u (ext w6 q) (HCU6.out.kept fun g cs ty _ _ h => blk_ext h) (blk_ext HX6.out.cell) (.inr HNE.out))
          go_wp2_with (first
            | (go_at_call 9; (with_reducible refine VA.out.mono ?_); rintro _ _ ⟨hV, x1, rfl⟩; obtain rfl := hV.1 (.inr HNE.out); clear hV)
            | (go_at_call 10; (with_reducible refine (NX.out _).mono ?_); rintro _ _ ⟨rfl, x2, rfl⟩)
            | (go_at_call 11; (with_reducible refine (PX.out _).mono ?_); rintro _ _ ⟨rfl, x3, rfl⟩))
          exact ⟨⟨i + 1, by go_num, by omega, t', _, HX6.out.gr ((Gr.refl w6).ext _), HG6.out.ext _, HB6.out⟩, by simp [intOf]; omega⟩
        · have q0 : (k == 0) = false := by simp [k0]
          have q1 : (k == 1) = false := by simp [k1]
          have q2 : (k == 2) = false := by simp [k2]
          have q7 : (k == 7) = false := by simp [k7]
          obtain ⟨HX6, HG6, HB6⟩ := KP.out (.inr ⟨k0, k1, k2, k7⟩)
          have HX6 := hidden HX6
          have HG6 := hidden HG6
          have HB6 := hidden HB6
          by_cases hz : t.sz = 0
          · go_wp2_with (fail)
            exact ⟨⟨i + 1, by go_num, by omega, t, _, HX6.out, HG6.out, HB6.out⟩, by simp [intOf]; omega⟩
          · have hz' : 0 < t.sz := by omega
            obtain ⟨R, x, y, z, u, hra, hRw, d0, d1, d2, d3, VT, HU⟩ := BT.out hz'
            subst hra
            go_upto_region 15 with (fail)
            refine wp_region_ext (by kernel_rfl) (by kernel_rfl) ?_
            repeat (go_big_quiet_step ((first | (go_at_call 9; first | exact Calls_ext (VT HX6.out _) | exact Calls_ext2 (VT HX6.out _)) | (go_at_call 12; first | exact Calls_ext (HU _) | exact Calls_ext2 (HU _)))))
            refine wpQuiet_nil ?_
            rintro w7 ⟨o, rfl⟩
            go_wp2_with (fail)
            exact ⟨⟨i + 1, by go_num, by omega, t, ver, HX6.out.gr ((Gr.refl w6).ext o), HG6.out.ext o, HB6.out⟩, by simp [intOf]; omega⟩
      · obtain rfl : n = i := by omega
        clear hx
        go_wp2_with (fail)
        go_ret
        exact ⟨rfl, by rw [← HC.out] at hg; exact hg.of⟩
end Go.Proofs.Qxb6500688a
