import Derived.Test.Qxb6500679aCases
namespace Go.Proofs.Qxb6500679a
open Go.RowKit Go.BigFrame
set_option linter.unusedSimpArgs false
attribute [local go_sem] ext_cell_if ext_frozen_if alloc_cell_if alloc_frozen_if ext_size ext_ext
theorem small_any (a : Option Addr) (n c : Nat) (w : World) : Calls Try.prog 4 #[.slice a n c] w fun e w' => (n ≤ 65536 → e = .returned (.bool true)) ∧ (65536 < n → e = .returned (.bool false)) ∧ w' = w := by
  go_enter Try.func4, Try.ntmps4
  by_cases h : n ≤ 65536
  · go_wp2
    go_ret
    exact ⟨fun _ => rfl, fun h' => by omega, rfl⟩
  · go_wp2
    go_ret
    exact ⟨fun h' => by omega, fun _ => rfl, rfl⟩
theorem Ry.prefix {A B : Nat} {w : World} {P : Value → Prop} {a : Option Addr} {n c : Nat} (h : Ry A B w P (.slice a n c) n) (m : Nat) (hm : m ≤ n) : Ry A B w P (.slice a m c) m := by
  obtain ⟨a', c', h1, h2, h3⟩ := h
  obtain ⟨rfl, rfl⟩ : a = a' ∧ c = c' := by simpa using h1
  refine ⟨_, _, rfl, by omega, fun hl => ?_⟩
  obtain ⟨g, g1, g2, g3, g4⟩ := h3 (by omega)
  exact ⟨g, g1, g2, g3, fun j hj => g4 j (by omega)⟩
theorem Gr.step {S : Nat} {a b w : World} {T : Nat} (h : Gr S a b) (h2 : Gr T b w) (hT : S ≤ T) : Gr S a w := ⟨h.1.trans (h2.1.mono hT), by have := h2.2; omega⟩
set_option maxRecDepth 100000 in
set_option maxHeartbeats 1000000 in
theorem law_any (v : Value) (n : Nat) (w : World) (hs : Script w v n) : Calls Try.prog 3 #[v] w fun e w' => e = .returned (.bool true) ∧ ∃ x, w' = ext w x := by
  have HS := hidden hs
  obtain ⟨a, c, rfl, hs⟩ := hs
  clear hs
  go_enter Try.func3, Try.ntmps3
  by_cases hn : n ≤ 65536
  · go_wp2_with (first | (go_at_call 4; refine (small_any _ _ _ _).mono ?_; rintro _ w ⟨h1, h2, rfl⟩; obtain rfl := h1 hn; clear h1 h2) | (go_at_call 5; refine (cases_any _ n _ HS.out hn).mono ?_; rintro _ w1 ⟨q, rfl, hq⟩; have HQ := hidden hq; clear hq))
    have hq := HQ.out
    obtain ⟨S1, hS1⟩ : ∃ S1, w1.heap.size = S1 := ⟨_, rfl⟩
    have hSA : w.heap.size ≤ S1 := by have := hq.gr.2; omega
    have snp : ∀ i, i < q.on → ∃ (go : Nat) (ba ca ea : Option Addr) (bn bc cn cc en ec : Nat) (sh mo : Int), q.oa = some ⟨go, 0, none⟩ ∧ go < S1 ∧ w1.cell? ⟨go, i * 5, none⟩ = some (.slice ba bn bc) ∧ w1.cell? ⟨go, i * 5 + 1, none⟩ = some (.slice ca cn cc) ∧
        w1.cell? ⟨go, i * 5 + 2, none⟩ = some (.int .u64 sh) ∧ w1.cell? ⟨go, i * 5 + 3, none⟩ = some (.slice ea en ec) ∧ w1.cell? ⟨go, i * 5 + 4, none⟩ = some (.int .i64 mo) ∧ 0 ≤ sh ∧ (-9223372036854775808 ≤ mo ∧ mo ≤ 9223372036854775807) ∧ bn ≤ 4100 ∧ bn ≤ bc ∧
        Ry 0 S1 w1 I32 (.slice ba bn bc) bn ∧ Ry 0 S1 w1 I16 (.slice ca cn cc) cn := fun i hi => by
      obtain ⟨sb, sc, ea, sbn, scn, en, ec, sh, mo, xs, ys, h1, h2, h3, h4, h5, h6, h7, h8, h9, h10, h11, h12, h13, h14, h15⟩ := hq.sn i hi
      obtain ⟨ba, bn, bc, rfl⟩ := own_slice h10
      obtain rfl : bn = sbn := own_len h10
      obtain ⟨ca, cn, cc, rfl⟩ := own_slice h13
      obtain rfl : cn = scn := own_len h13
      have r1 := (Ry.own h10 h11).mono (Nat.zero_le _) (Nat.le_of_eq hS1)
      have r2 := (Ry.own h13 h14).mono (Nat.zero_le _) (Nat.le_of_eq hS1)
      have hle : bn ≤ bc := by obtain ⟨_, _, e1, e2, _⟩ := r1; simp at e1; omega
      rcases hq.oo.2 with ⟨e1, e2⟩ | ⟨go, cap, cur, e1, _, e3, e4, _⟩
      · omega
      · simp at e1
        obtain ⟨e1, rfl⟩ := e1
        have hl : q.os.length = q.on * 5 := hq.oo.1
        have cl : ∀ j, j < 5 → w1.cell? ⟨go, i * 5 + j, none⟩ = q.os[i * 5 + j]? := fun j hj => by
          have hoo := hq.oo
          rw [e1] at hoo
          exact hoo.cellAt (i * 5 + j) (by omega)
        exact ⟨go, ba, ca, ea, bn, bc, cn, cc, en, ec, sh, mo, e1, by have := lt_of_cells e3; omega, (cl 0 (by omega)).trans h1, (cl 1 (by omega)).trans h2, (cl 2 (by omega)).trans h3, (cl 3 (by omega)).trans h4, (cl 4 (by omega)).trans h5, h6, h7, h8, hle, r1, r2⟩
    have SN := hidden snp
    clear snp hq
    go_loopw [13] (fun s wi => ∃ i : Nat, i ≤ q.on ∧ s = .int .i64 i ∧ Gr S1 w1 wi) (fun s _ => q.on - (intOf s).toNat)
    case atStart => exact ⟨0, by omega, rfl, by rw [← hS1]; exact Gr.refl _⟩
    case round =>
      obtain ⟨i, hi, rfl, hg⟩ := hrel
      by_cases hin : i < q.on
      · obtain ⟨go, ba, ca, ea, bn, bc, cn, cc, en, ec, sh, mo, e1, hgo, c0, c1, c2, c3, c4, hsh, hmo, hbn, hbc, r1, r2⟩ := SN.out i hin
        have kp : ∀ o, wr.cell? ⟨go, o, none⟩ = w1.cell? ⟨go, o, none⟩ := fun o => hg.1.cell (p := ⟨go, o, none⟩) hgo
        rw [← kp] at c0 c1 c2 c3 c4
        have R1 := hidden r1
        have R2 := hidden r2
        have HG := hidden hg
        have hgS : S1 ≤ wr.heap.size := hg.2
        clear r1 r2 kp hg
        rw [e1]
        obtain ⟨m, hm⟩ : ∃ m, min bn 4096 = m := ⟨_, rfl⟩
        have hm1 : m ≤ bn := by omega
        go_upto_region 7 with (go_at_call 6; refine (within_any _ _ _ _ _ _ _ _ _ _ _ _ hbc (by omega)).mono ?_; rw [hm]; rintro _ _ ⟨rfl, x1, rfl⟩)
        obtain ⟨C, hC⟩ : ∃ C, wr.heap.size = C := ⟨_, rfl⟩
        rw [hC]
        refine wp_gen (fun W => Gr S1 w1 W ∧ W.heap[C]? = some (.cells #[.slice ba bn bc, .slice ca cn cc, .int .u64 sh, .slice ea en ec, .int .i64 mo] 30)) ⟨(HG.out.alloc _).ext x1, ((ext_below _ x1).block C (by simp; omega)).trans (by rw [← hC]; exact heap_new _ _)⟩ ?_
        clear c0 c1 c2 c3 c4 HG
        clear x1
        have hCS : S1 ≤ C := by omega
        clear hgS hC
        clear wr
        rintro wr ⟨hg, hcv⟩
        have HR : Hid (∀ (sh : Int) (cs : Value) (cn : Nat) (W : World), 0 ≤ sh → Ry 0 W.heap.size W I16 cs cn → Gr S1 w1 W → Calls Try.prog 10 #[.agg #[.int .u64 sh, cs], .slice none 0 0, .slice ba m bc] W fun e w' => ∃ V : Value, e = .returned V ∧ Ry 0 w'.heap.size w' I64 V m ∧ ∃ x, w' = ext W x) := fun sh cs cn W h0 hcs hW =>
          residual_any sh cs _ cn m W h0 hcs (((R1.out.prefix m hm1).below hW.1).mono (Nat.le_refl _) hW.2) (by omega)
        have RC : Hid (∀ W, Gr S1 w1 W → Ry 0 W.heap.size W I16 (.slice ca cn cc) cn) := fun W hW => (R2.out.below hW.1).mono (Nat.le_refl _) hW.2
        have RB : Hid (∀ W, Gr S1 w1 W → Ry 0 W.heap.size W I32 (.slice ba m bc) m) := fun W hW => ((R1.out.prefix m hm1).below hW.1).mono (Nat.le_refl _) hW.2
        have HG := hidden hg
        have HCV := hidden hcv
        have hCw : C < wr.heap.size := lt_of_cells hcv
        have k0 := cell_of_cells hcv 0
        have k1 := cell_of_cells hcv 1
        have k2 := cell_of_cells hcv 2
        have k3 := cell_of_cells hcv 3
        have k4 := cell_of_cells hcv 4
        simp at k0 k1 k2 k3 k4
        clear hg hcv
        go_region_held3 (fun w' => w'.cell? ⟨C, 0, none⟩ = some (.slice ba bn bc) ∧ w'.cell? ⟨C, 1, none⟩ = some (.slice ca cn cc) ∧ w'.cell? ⟨C, 2, none⟩ = some (.int .u64 sh) ∧ w'.cell? ⟨C, 3, none⟩ = some (.slice ea en ec) ∧ w'.cell? ⟨C, 4, none⟩ = some (.int .i64 mo))
          ((repeat' apply And.intro) <;> (first | assumption | (simp [go_sem, k0, k1, k2, k3, k4, hCw, ↓IntWalk.iteOmega]; done)))
          (first
            | (go_at_call 9; refine (predictor_any _ _ _ _ _ _ _ _ _ _ _ _).mono ?_; rintro _ _ ⟨rfl, x1, rfl⟩)
            | (go_at_call 10; refine (HR.out _ _ cn _ hsh (RC.out _ (by repeat (first | exact HG.out | refine Gr.drew ?_ | refine Gr.ext ?_ _))) (by repeat (first | exact HG.out | refine Gr.drew ?_ | refine Gr.ext ?_ _))).mono ?_; rintro _ _ ⟨V, rfl, hV, x2, rfl⟩)
            | (go_at_call 8; refine (zigzagged_any V m _ _ (by simpa [go_sem] using hV) (by omega)).mono ?_; rintro _ _ ⟨V2, l, rfl, hl1, hl2, hl3, x3, rfl⟩)
            | (go_at_call 7; refine (cheapestHolds_any V2 l _ (by simpa [go_sem] using hl3) hl2 hl1).mono ?_; rintro _ _ ⟨rfl, x4, rfl⟩))
        go_upto_region 9 with (fail)
        refine wp_gen (fun W => Gr S1 w1 W ∧ W.heap[C]? = some (.cells #[.slice ba bn bc, .slice ca cn cc, .int .u64 sh, .slice ea en ec, .int .i64 mo] 30)) ⟨HG.out.drew.ext _, ((ext_below _ _).block C hCw).trans HCV.out⟩ ?_
        clear k0 k1 k2 k3 k4 HG HCV hCw hV hl1 hl2 hl3
        rintro w9 ⟨hg, hcv⟩
        have HG := hidden hg
        have hCw : C < w9.heap.size := lt_of_cells hcv
        have k4 := cell_of_cells hcv 4
        simp at k4
        have HB := hidden (RB.out _ hg)
        clear hg hcv
        go_upto_region 10 with (go_at_call 11; refine (search_any _ m mo _ HB.out (by omega) hmo).mono ?_; rintro _ _ ⟨sh2, U, m2, hsh2, rfl, hm2, hU, x5, rfl⟩; have HU := hidden hU; obtain ⟨ua, uc, rfl, _, _⟩ := hU)
        obtain ⟨D, hD⟩ : ∃ D, (ext w9 x5).heap.size = D := ⟨_, rfl⟩
        have hD' := hD
        simp only [ext_size] at hD'
        rw [hD']
        refine wp_gen (fun W => Gr S1 w1 W ∧ W.heap[D]? = some (.cells #[.int .u64 sh2, .slice ua m2 uc] 37) ∧ Ry 0 D W I16 (.slice ua m2 uc) m2) ⟨(HG.out.ext x5).alloc _, by rw [← hD]; exact heap_new _ _, by rw [← hD]; exact HU.out.alloc (Nat.le_refl _) _⟩ ?_
        clear k4 HG HB hCw HU
        rintro w10 ⟨hg, hcv, hu⟩
        have hon := HQ.out.nl
        have HG := hidden hg
        have hDw : D < w10.heap.size := lt_of_cells hcv
        have RU : Hid (∀ W, Gr w10.heap.size w10 W → Ry 0 W.heap.size W I16 (.slice ua m2 uc) m2) := fun W hW => (hu.below (hW.1.mono (by omega))).mono (Nat.le_refl _) (by have := hW.2; omega)
        have k0 := cell_of_cells hcv 0
        have k1 := cell_of_cells hcv 1
        simp at k0 k1
        clear hg hcv hu hD hD'
        go_region_held3 (fun w' => w'.cell? ⟨D, 0, none⟩ = some (.int .u64 sh2) ∧ w'.cell? ⟨D, 1, none⟩ = some (.slice ua m2 uc))
          ((repeat' apply And.intro) <;> (first | assumption | (simp [go_sem, k0, k1, hDw, ↓IntWalk.iteOmega]; done)))
          (first
            | (go_at_call 12; refine (order_any _ _ _ _ _).mono ?_; rintro _ _ ⟨rfl, x1, rfl⟩)
            | (go_at_call 10; refine (HR.out _ _ m2 _ hsh2 (by first | exact RU.out _ (Gr.refl w10).drew | exact RU.out _ ((Gr.refl w10).drew.ext _)) (by first | exact HG.out.drew | exact HG.out.drew.ext _)).mono ?_; rintro _ _ ⟨V3, rfl, hV3, x2, rfl⟩)
            | (go_at_call 8; refine (zigzagged_any V3 m _ _ (by first | exact hV3 | (rw [← ext_ext]; exact (hV3.ext (Nat.le_refl _) x1).mono (Nat.le_refl _) ((Gr.refl _).ext x1).2)) (by omega)).mono ?_; rintro _ _ ⟨V4, l2, rfl, hl1, hl2, hl3, x3, rfl⟩)
            | (go_at_call 7; refine (cheapestHolds_any V4 l2 _ (by simpa [go_sem] using hl3) hl2 hl1).mono ?_; rintro _ _ ⟨rfl, x4, rfl⟩))
        go_wp2_with (fail)
        exact ⟨⟨i + 1, by omega, by go_num, HG.out.drew.ext _⟩, by simp [intOf]; omega⟩
      · go_wp2
        go_ret
        exact ⟨rfl, (HQ.out.gr.step hg hSA).of⟩
  · go_wp2_with (go_at_call 4; refine (small_any _ _ _ _).mono ?_; rintro _ w ⟨h1, h2, rfl⟩; obtain rfl := h2 (by omega); clear h1 h2)
    go_ret
    exact ⟨rfl, (Gr.refl _).of⟩
end Go.Proofs.Qxb6500679a
