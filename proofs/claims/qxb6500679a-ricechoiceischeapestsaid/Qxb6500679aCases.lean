import Derived.Test.Qxb6500679aScript
namespace Go.Proofs.Qxb6500679a
open Go.RowKit Go.BigFrame
set_option linter.unusedSimpArgs false
attribute [local go_sem] ext_cell_if ext_frozen_if alloc_cell_if alloc_frozen_if ext_size ext_ext
set_option maxRecDepth 100000 in
set_option maxHeartbeats 4000000 in
theorem cases_any (v : Value) (n : Nat) (w : World) (hs : Script w v n) (hn : n ≤ 65536) :
    Calls Try.prog 5 #[v] w fun e w' => ∃ q, e = .returned (.slice q.oa q.on q.oc) ∧ Bench w.heap.size (n + 1) w w' q := by
  obtain ⟨a, c, rfl, hs⟩ := hs
  have HS := hidden hs
  clear hs
  obtain ⟨i5, hi5, ha5, hb5, hc5⟩ := info_parts Try.info50
  obtain ⟨i7, hi7, ha7, hb7, hc7⟩ := info_parts Try.info47
  obtain ⟨A, hA⟩ : ∃ A, w.heap.size = A := ⟨_, rfl⟩
  go_enter Try.func5, Try.ntmps5
  go_wp2
  have hb0 := bench_start w
  generalize hW : (w.alloc (.cells #[.slice none 0 0] 24)).alloc (.cells #[.slice none 0 0, .slice none 0 0, .int .u64 0, .slice none 0 0, .int .i64 0] 30) = W at *
  rw [hA] at hb0
  have HB0 := hidden hb0
  clear hb0 hW
  go_loopw [24] (fun s wi => ∃ (i : Nat) (q : Bn), i ≤ n ∧ s = .int .i64 i ∧ Bench A i w wi q) (fun s _ => n - (intOf s).toNat)
  case atStart => exact ⟨0, _, by omega, rfl, HB0.out⟩
  case round =>
    obtain ⟨i, q, hi, rfl, hb⟩ := hrel
    have HB := hidden hb
    clear hb HB0
    by_cases hin : i < n
    · obtain ⟨b, off, rfl, hbl, hcells⟩ := HS.out (by omega)
      obtain ⟨k, x, y, z, e0, e1, e2, e3, k0, k1, hx, hy, hz⟩ := hcells i hin
      have kp : ∀ o, wr.cell? ⟨b, o, none⟩ = w.cell? ⟨b, o, none⟩ := fun o => HB.out.gr.1.cell (p := ⟨b, o, none⟩) (by show b < A; omega)
      rw [← kp] at e0 e1 e2 e3
      clear hcells kp
      go_upto_region 8 with (fail)
      obtain ⟨g, hg⟩ : ∃ g, wr.heap.size = g := ⟨_, rfl⟩
      rw [hg]
      refine wp_gen (fun W => Bench A i w W q ∧ W.heap[g]? = some (.cells #[.int .u8 k, .int .i64 x, .int .i64 y, .int .i64 z] 47) ∧ A + 1 < g ∧ some g ≠ (Value.slice q.ea q.en q.ec).ownBlock) ⟨HB.out.alloc _, by rw [← hg]; exact heap_new _ _, by have := lt_of_cells HB.out.vb; omega, fun e => by have := (HB.out.oe.lt g e.symm).2; omega⟩ ?_
      clear e0 e1 e2 e3 HB hg
      clear wr
      rintro wr ⟨hb, hg, hAg, hgn⟩
      have HN := hidden hgn
      have HB := hidden hb
      have HG := hidden hg
      have e0 := cell_of_cells hg 0
      have e1 := cell_of_cells hg 1
      have e2 := cell_of_cells hg 2
      have e3 := cell_of_cells hg 3
      simp at e0 e1 e2 e3
      clear hb hg hgn
      go_upto_region 10 with (go_at_call 16; refine (count_any _ _).mono ?_; rintro _ wr ⟨c0, hc0, rfl, rfl⟩)
      have hk12 : k % 12 = 0 ∨ k % 12 = 1 ∨ k % 12 = 2 ∨ k % 12 = 3 ∨ k % 12 = 4 ∨ k % 12 = 5 ∨ k % 12 = 6 ∨ k % 12 = 7 ∨ k % 12 = 8 ∨ k % 12 = 9 ∨ k % 12 = 10 ∨ k % 12 = 11 := by omega
      rcases hk12 with hk | hk | hk | hk | hk | hk | hk | hk | hk | hk | hk | hk
      · as_aux_lemma =>
            go_wp2_with (go_at_call 13; refine (push_any A i w _ q _ HB.out).mono ?_; rintro _ w1 ⟨rfl, ⟨q1, hq1⟩, hk1⟩; have HQ1 := hidden hq1; have HK1 := hidden hk1; clear hq1 hk1)
            exact ⟨⟨i + 1, q1, by omega, by go_num, HQ1.out.mono (by omega)⟩, by simp [intOf]; omega⟩
      · as_aux_lemma =>
            rw [hk]
            go_wp2_with (fail)
            go_loopw [10] (fun s wi => ∃ (j : Nat) (q : Bn), j ≤ c0 ∧ s = .int .i64 j ∧ Bench A i w wi q ∧ wi.heap[g]? = some (.cells #[.int .u8 k, .int .i64 x, .int .i64 y, .int .i64 z] 47)) (fun s _ => c0 - (intOf s).toNat)
            case atStart => exact ⟨0, q, by omega, rfl, HB.out, HG.out⟩
            case round =>
              clear e0 e1 e2 e3 HB HG HN
              clear q
              obtain ⟨j, q, hj, rfl, hb, hg⟩ := hrel
              have HB := hidden hb
              have HG := hidden hg
              have e0 := cell_of_cells hg 0
              have e1 := cell_of_cells hg 1
              have e2 := cell_of_cells hg 2
              have e3 := cell_of_cells hg 3
              simp at e0 e1 e2 e3
              clear hb hg
              by_cases hjc : j < c0
              · go_wp2_with (go_at_call 13; refine (push_any A i w _ q _ HB.out).mono ?_; rintro _ w1 ⟨rfl, ⟨q1, hq1⟩, hk1⟩; have HQ1 := hidden hq1; have HK1 := hidden hk1; clear hq1 hk1)
                exact ⟨⟨j + 1, q1, by omega, by go_num, HQ1.out, HK1.out g _ (by omega) HG.out⟩, by simp [intOf]; omega⟩
              · go_wp2_with (fail)
                exact ⟨⟨i + 1, q, by omega, by go_num, HB.out.mono (by omega)⟩, by simp [intOf]; omega⟩
      · as_aux_lemma =>
            rw [hk]
            go_wp2_with (fail)
            go_loopw [11] (fun s wi => ∃ (j : Nat) (q : Bn), j ≤ c0 ∧ s = .int .i64 j ∧ Bench A i w wi q ∧ wi.heap[g]? = some (.cells #[.int .u8 k, .int .i64 x, .int .i64 y, .int .i64 z] 47)) (fun s _ => c0 - (intOf s).toNat)
            case atStart => exact ⟨0, q, by omega, rfl, HB.out, HG.out⟩
            case round =>
              clear e0 e1 e2 e3 HB HG HN
              clear q
              obtain ⟨j, q, hj, rfl, hb, hg⟩ := hrel
              have HB := hidden hb
              have HG := hidden hg
              have e0 := cell_of_cells hg 0
              have e1 := cell_of_cells hg 1
              have e2 := cell_of_cells hg 2
              have e3 := cell_of_cells hg 3
              simp at e0 e1 e2 e3
              clear hb hg
              by_cases hjc : j < c0
              · go_wp2_with (first | (go_at_call 14; refine (fold_any _ _).mono ?_; rintro _ wr ⟨f, hf0, hf1, rfl, rfl⟩) | (go_at_call 13; refine (push_any A i w _ q _ HB.out).mono ?_; rintro _ w1 ⟨rfl, ⟨q1, hq1⟩, hk1⟩; have HQ1 := hidden hq1; have HK1 := hidden hk1; clear hq1 hk1))
                exact ⟨⟨j + 1, q1, by omega, by go_num, HQ1.out, HK1.out g _ (by omega) HG.out⟩, by simp [intOf]; omega⟩
              · go_wp2_with (fail)
                exact ⟨⟨i + 1, q, by omega, by go_num, HB.out.mono (by omega)⟩, by simp [intOf]; omega⟩
      · as_aux_lemma =>
            rw [hk]
            go_wp2_with (fail)
            go_loopw [12] (fun s wi => ∃ (j : Nat) (q : Bn), j ≤ c0 ∧ s = .int .i64 j ∧ Bench A i w wi q ∧ wi.heap[g]? = some (.cells #[.int .u8 k, .int .i64 x, .int .i64 y, .int .i64 z] 47)) (fun s _ => c0 - (intOf s).toNat)
            case atStart => exact ⟨0, q, by omega, rfl, HB.out, HG.out⟩
            case round =>
              clear e0 e1 e2 e3 HB HG HN
              clear q
              obtain ⟨j, q, hj, rfl, hb, hg⟩ := hrel
              have HB := hidden hb
              have HG := hidden hg
              have e0 := cell_of_cells hg 0
              have e1 := cell_of_cells hg 1
              have e2 := cell_of_cells hg 2
              have e3 := cell_of_cells hg 3
              simp at e0 e1 e2 e3
              clear hb hg
              by_cases hjc : j < c0
              · have hG2 : wr.drew.heap[g]? = _ := HG.out
                have HG5 := hidden hG2
                have hgA : g ≠ A + 1 := by omega
                clear hG2
                go_upto_region 26 with (fail)
                go_region_held3 (fun w' => w'.cell? ⟨g, 1, none⟩ = some (.int .i64 x) ∧ w'.cell? ⟨g, 2, none⟩ = some (.int .i64 y)) ((repeat' apply And.intro) <;> (first | assumption | (simp [go_sem, e1, e2, ↓IntWalk.iteOmega]; done)))
                  (first
                    | (go_at_call 14; refine (fold_any _ _).mono ?_; rintro _ _ ⟨f, hf0, hf1, rfl, rfl⟩)
                    | (go_at_call 13; refine (push_any A i w _ q _ HB.out.drew).mono ?_; rintro _ w1 ⟨rfl, ⟨q1, hq1⟩, hk1⟩; have HQ1 := hidden hq1; have hg3 := hk1 g _ hgA HG5.out; have HG3 := hidden hg3; have t1 := cell_of_cells hg3 1; have t2 := cell_of_cells hg3 2; simp at t1 t2; clear hq1 hk1 hg3))
                go_wp2_with (fail)
                exact ⟨⟨j + 1, q1, by omega, by go_num, HQ1.out, HG3.out⟩, by simp [intOf]; omega⟩
              · go_wp2_with (fail)
                exact ⟨⟨i + 1, q, by omega, by go_num, HB.out.mono (by omega)⟩, by simp [intOf]; omega⟩
      · as_aux_lemma =>
            rw [hk]
            go_wp2_with (fail)
            have hgl := lt_of_cells HG.out
            obtain ⟨pt, hpt⟩ : ∃ pt, y.tmod 32768 = pt := ⟨_, rfl⟩
            rw [hpt]
            refine wp_region_ext (by kernel_rfl) (by kernel_rfl) ?_
            repeat (go_big_quiet_step ((go_at_call 14; first | exact Calls_ext (fold_val _ _) | exact Calls_ext2 (fold_val _ _))))
            rintro w5 ⟨x5, rfl⟩
            have hG5 : (ext wr x5).heap[g]? = _ := ((ext_below wr x5).block g hgl).trans HG.out
            have HG5 := hidden hG5
            have HB5 := hidden (HB.out.ext x5)
            clear hG5
            go_wp2_with (fail)
            go_loopw [14, 15, 16] (fun s1 s2 s wi => ∃ (j : Nat) (q : Bn) (x1 x2 : Int), j ≤ c0 ∧ s1 = .int .i64 x1 ∧ s2 = .int .i64 x2 ∧ s = .int .i64 j ∧ Bench A i w wi q ∧ wi.heap[g]? = some (.cells #[.int .u8 k, .int .i64 x, .int .i64 y, .int .i64 z] 47)) (fun _ _ s _ => c0 - (intOf s).toNat)
            case atStart => exact ⟨0, q, _, _, by omega, rfl, rfl, rfl, HB5.out, HG5.out⟩
            case round =>
              clear e0 e1 e2 e3 HB HG HN HB5 HG5
              clear q
              obtain ⟨j, q, x1, x2, hj, rfl, rfl, rfl, hb, hg⟩ := hrel
              have HB := hidden hb
              have HG := hidden hg
              have e0 := cell_of_cells hg 0
              have e1 := cell_of_cells hg 1
              have e2 := cell_of_cells hg 2
              have e3 := cell_of_cells hg 3
              simp at e0 e1 e2 e3
              clear hb hg
              by_cases hjc : j < c0
              · go_wp2_with (first | (go_at_call 13; refine (push_any A i w _ q _ HB.out).mono ?_; rintro _ w1 ⟨rfl, ⟨q1, hq1⟩, hk1⟩; have HQ1 := hidden hq1; have HK1 := hidden hk1; clear hq1 hk1) | (go_at_call 14; refine (fold_any _ _).mono ?_; rintro _ w1 ⟨f, hf0, hf1, rfl, rfl⟩))
                exact ⟨⟨j + 1, q1, _, _, by omega, rfl, rfl, by go_num, HQ1.out, HK1.out g _ (by omega) HG.out⟩, by simp [intOf]; omega⟩
              · go_wp2_with (fail)
                exact ⟨⟨i + 1, q, by omega, by go_num, HB.out.mono (by omega)⟩, by simp [intOf]; omega⟩
      · as_aux_lemma =>
            obtain ⟨wd, hwd⟩ : ∃ wd, (IntKind.u64.wrap (wrap64 (y.tmod 27 + 27))).tmod 27 = wd := ⟨_, rfl⟩
            have hw0 : 0 ≤ wd := by rw [← hwd]; exact Int.tmod_nonneg _ (u64_bd _).1
            have hw1 : wd < 27 := by rw [← hwd]; exact (tmod_bd _ 27 (by decide)).2
            rw [hk]
            go_wp2_with (fail)
            obtain ⟨st, hst⟩ : ∃ st, IntKind.u64.wrap x = st := ⟨_, rfl⟩
            have hst0 : 0 ≤ st ∧ st ≤ 18446744073709551615 := by rw [← hst]; exact u64_bd _
            go_loopw [18, 19] (fun s1 s wi => ∃ (j : Nat) (q : Bn) (x1 : Int), j ≤ c0 ∧ s1 = .int .u64 x1 ∧ (0 ≤ x1 ∧ x1 ≤ 18446744073709551615) ∧ s = .int .i64 j ∧ Bench A i w wi q ∧ wi.heap[g]? = some (.cells #[.int .u8 k, .int .i64 x, .int .i64 y, .int .i64 z] 47)) (fun _ s _ => c0 - (intOf s).toNat)
            case atStart => exact ⟨0, q, _, by omega, rfl, u64_bd _, rfl, HB.out, HG.out⟩
            case round =>
              clear e0 e1 e2 e3 HB HG HN hst hst0
              clear q st
              obtain ⟨j, q, x1, hj, rfl, hx1, rfl, hb, hg⟩ := hrel
              have HB := hidden hb
              have HG := hidden hg
              have e0 := cell_of_cells hg 0
              have e1 := cell_of_cells hg 1
              have e2 := cell_of_cells hg 2
              have e3 := cell_of_cells hg 3
              simp at e0 e1 e2 e3
              clear hb hg
              obtain ⟨d, hd⟩ : ∃ d : Nat, wd = d := ⟨wd.toNat, by omega⟩
              subst hd
              have e64 : (64 : Int) - (d : Int) = ((64 - d : Nat) : Int) := by omega
              by_cases hjc : j < c0
              · go_wp2_with (go_at_call 13; refine (push_any A i w _ q _ HB.out).mono ?_; rintro _ w1 ⟨rfl, ⟨q1, hq1⟩, hk1⟩; have HQ1 := hidden hq1; have HK1 := hidden hk1; clear hq1 hk1)
                exact ⟨⟨j + 1, q1, _, by omega, rfl, u64_bd _, by go_num, HQ1.out, HK1.out g _ (by omega) HG.out⟩, by simp [intOf]; omega⟩
              · go_wp2_with (fail)
                exact ⟨⟨i + 1, q, by omega, by go_num, HB.out.mono (by omega)⟩, by simp [intOf]; omega⟩
      · as_aux_lemma =>
            have hvb := HB.out.vb
            have f0 := cell_of_cells hvb 0
            have f1 := cell_of_cells hvb 1
            have f2 := cell_of_cells hvb 2
            have f3 := cell_of_cells hvb 3
            have f4 := cell_of_cells hvb 4
            have fm := mark_of_cells hvb
            have hAw := lt_of_cells hvb
            simp at f0 f1 f2 f3 f4
            clear hvb
            by_cases h4 : q.cn < 32
            · go_wp2_with (at_builtin; refine wpList_append_at rfl (.tmp 160) (.tmp 164) 27 rfl (A + 2) 50 i5 (.int .i16 0) 1 2 Try.underlying27 hi5 ha5 hb5 hc5 rfl (by decide) (.slice q.ca q.cn q.cc) q.cn q.ys (by simp [Act.eval]) (HB.out.oc.alloc _) ⟨wr.heap.size, 0, none⟩ 1 1 [.int .i16 (IntKind.i16.wrap x)] (by simp [Act.eval]) rfl (by intro j u hj; rcases j with _ | j <;> simp at hj; subst hj; simp [Addr.add]) (by intro u hu; simp at hu; subst hu; rfl) (by unfold maxLen; omega) (by omega) (by simp; omega) ?_)
              intro v' w1 hown' hgrow hblk
              obtain ⟨qa', qn', qc', rfl⟩ := own_slice hown'
              have hvb1 : w1.heap[A + 1]? = _ := (hgrow.block (A + 1) (by simp; omega) (own_ne HB.out.oc (by omega))).trans (blk_alloc HB.out.vb)
              have j0 := cell_of_cells hvb1 1
              have j1 := mark_of_cells hvb1 1
              simp at j0
              have HO := hidden hown'
              have HW := hidden hgrow
              have HK := hidden hblk
              clear hown' hgrow hblk hvb1
              go_wp2
              exact ⟨⟨i + 1, _, by omega, by go_num, (HB.out.coef h4 ⟨_, rfl, i16_bd _⟩ HO.out HW.out (by simpa using HK.out)).mono (by omega)⟩, by simp [intOf]; omega⟩
            · go_wp2_with (fail)
              exact ⟨⟨i + 1, _, by omega, by go_num, (HB.out).mono (by omega)⟩, by simp [intOf]; omega⟩
      · as_aux_lemma =>
            have hvb := HB.out.vb
            have f0 := cell_of_cells hvb 0
            have f1 := cell_of_cells hvb 1
            have f2 := cell_of_cells hvb 2
            have f3 := cell_of_cells hvb 3
            have f4 := cell_of_cells hvb 4
            have fm := mark_of_cells hvb
            have hAw := lt_of_cells hvb
            simp at f0 f1 f2 f3 f4
            clear hvb
            have hs0 : 0 ≤ (IntKind.u64.wrap (wrap64 (x.tmod 16 + 16))).tmod 16 := Int.tmod_nonneg _ (u64_bd _).1
            go_wp2_with (fail)
            exact ⟨⟨i + 1, _, by omega, by go_num, (HB.out.shift hs0).mono (by omega)⟩, by simp [intOf]; omega⟩
      · as_aux_lemma =>
            have hvb := HB.out.vb
            have f0 := cell_of_cells hvb 0
            have f1 := cell_of_cells hvb 1
            have f2 := cell_of_cells hvb 2
            have f3 := cell_of_cells hvb 3
            have f4 := cell_of_cells hvb 4
            have fm := mark_of_cells hvb
            have hAw := lt_of_cells hvb
            simp at f0 f1 f2 f3 f4
            clear hvb
            by_cases h4 : q.en < 64
            · have gm := mark_of_cells HG.out
              have hgA : ¬ g = A + 1 := by omega
              have hgA' : ¬ A + 1 = g := by omega
              go_upto_region 52 with (fail)
              refine wp_gen (fun W => Bench A i w W q ∧ W.heap[g]? = some (.cells #[.int .u8 (k % 12), .int .i64 x, .int .i64 y, .int .i64 z] 47)) ⟨HB.out.kind HG.out HN.out (by omega) _ _, by have := blk_set HG.out 0 (.int .u8 (k % 12)); simpa [hk] using this⟩ ?_
              clear e0 e1 e2 e3 HB HG f0 f1 f2 f3 f4 fm hAw gm HN
              clear wr
              rintro wr ⟨hb, hg⟩
              have HB := hidden hb
              have e0 := cell_of_cells hg 0
              have e1 := cell_of_cells hg 1
              have e2 := cell_of_cells hg 2
              have e3 := cell_of_cells hg 3
              simp at e0 e1 e2 e3
              have f3 := cell_of_cells hb.vb 3
              have hAw := lt_of_cells hb.vb
              simp at f3
              clear hb hg
              go_wp2_with (at_builtin; refine wpList_append_at rfl (.tmp 188) (.tmp 190) 22 rfl (A + 2) 47 i7 (.agg #[.int .u8 0, .int .i64 0, .int .i64 0, .int .i64 0]) 4 32 Try.underlying22 hi7 ha7 hb7 hc7 rfl (by decide) (.slice q.ea q.en q.ec) q.en q.zs (by simp [Act.eval]) (HB.out.oe.alloc _) ⟨wr.heap.size, 0, none⟩ 1 1 [.int .u8 (k % 12), .int .i64 x, .int .i64 y, .int .i64 z] (by simp [Act.eval]) rfl (by intro j u hj; rw [show (⟨wr.heap.size, 0, none⟩ : Addr).add j = ⟨wr.heap.size, j, none⟩ by (simp [Addr.add] <;> omega)]; rw [new_cell _ _ _ _ (by simp)]; simpa [hk] using hj) (by intro u hu; simp at hu; rcases hu with rfl | rfl | rfl | rfl <;> rfl) (by unfold maxLen; omega) (by omega) (by simp; omega) ?_)
              intro v' w1 hown' hgrow hblk
              obtain ⟨qa', qn', qc', rfl⟩ := own_slice hown'
              have hvb1 : w1.heap[A + 1]? = _ := (hgrow.block (A + 1) (by simp; omega) (own_ne HB.out.oe (by omega))).trans (blk_alloc HB.out.vb)
              have j0 := cell_of_cells hvb1 3
              have j1 := mark_of_cells hvb1 3
              simp at j0
              have HO := hidden hown'
              have HW := hidden hgrow
              clear hown' hgrow hblk hvb1
              go_wp2
              exact ⟨⟨i + 1, _, by omega, by go_num, (HB.out.edit h4 (by intro u hu; simp at hu; rcases hu with rfl | rfl | rfl | rfl <;> rfl) HO.out HW.out).mono (by omega)⟩, by simp [intOf]; omega⟩
            · go_wp2_with (fail)
              exact ⟨⟨i + 1, _, by omega, by go_num, (HB.out).mono (by omega)⟩, by simp [intOf]; omega⟩
      · as_aux_lemma =>
            have hvb := HB.out.vb
            have f0 := cell_of_cells hvb 0
            have f1 := cell_of_cells hvb 1
            have f2 := cell_of_cells hvb 2
            have f3 := cell_of_cells hvb 3
            have f4 := cell_of_cells hvb 4
            have fm := mark_of_cells hvb
            have hAw := lt_of_cells hvb
            simp at f0 f1 f2 f3 f4
            clear hvb
            by_cases h4 : q.en < 64
            · have gm := mark_of_cells HG.out
              have hgA : ¬ g = A + 1 := by omega
              have hgA' : ¬ A + 1 = g := by omega
              go_upto_region 52 with (fail)
              refine wp_gen (fun W => Bench A i w W q ∧ W.heap[g]? = some (.cells #[.int .u8 (k % 12), .int .i64 x, .int .i64 y, .int .i64 z] 47)) ⟨HB.out.kind HG.out HN.out (by omega) _ _, by have := blk_set HG.out 0 (.int .u8 (k % 12)); simpa [hk] using this⟩ ?_
              clear e0 e1 e2 e3 HB HG f0 f1 f2 f3 f4 fm hAw gm HN
              clear wr
              rintro wr ⟨hb, hg⟩
              have HB := hidden hb
              have e0 := cell_of_cells hg 0
              have e1 := cell_of_cells hg 1
              have e2 := cell_of_cells hg 2
              have e3 := cell_of_cells hg 3
              simp at e0 e1 e2 e3
              have f3 := cell_of_cells hb.vb 3
              have hAw := lt_of_cells hb.vb
              simp at f3
              clear hb hg
              go_wp2_with (at_builtin; refine wpList_append_at rfl (.tmp 188) (.tmp 190) 22 rfl (A + 2) 47 i7 (.agg #[.int .u8 0, .int .i64 0, .int .i64 0, .int .i64 0]) 4 32 Try.underlying22 hi7 ha7 hb7 hc7 rfl (by decide) (.slice q.ea q.en q.ec) q.en q.zs (by simp [Act.eval]) (HB.out.oe.alloc _) ⟨wr.heap.size, 0, none⟩ 1 1 [.int .u8 (k % 12), .int .i64 x, .int .i64 y, .int .i64 z] (by simp [Act.eval]) rfl (by intro j u hj; rw [show (⟨wr.heap.size, 0, none⟩ : Addr).add j = ⟨wr.heap.size, j, none⟩ by (simp [Addr.add] <;> omega)]; rw [new_cell _ _ _ _ (by simp)]; simpa [hk] using hj) (by intro u hu; simp at hu; rcases hu with rfl | rfl | rfl | rfl <;> rfl) (by unfold maxLen; omega) (by omega) (by simp; omega) ?_)
              intro v' w1 hown' hgrow hblk
              obtain ⟨qa', qn', qc', rfl⟩ := own_slice hown'
              have hvb1 : w1.heap[A + 1]? = _ := (hgrow.block (A + 1) (by simp; omega) (own_ne HB.out.oe (by omega))).trans (blk_alloc HB.out.vb)
              have j0 := cell_of_cells hvb1 3
              have j1 := mark_of_cells hvb1 3
              simp at j0
              have HO := hidden hown'
              have HW := hidden hgrow
              clear hown' hgrow hblk hvb1
              go_wp2
              exact ⟨⟨i + 1, _, by omega, by go_num, (HB.out.edit h4 (by intro u hu; simp at hu; rcases hu with rfl | rfl | rfl | rfl <;> rfl) HO.out HW.out).mono (by omega)⟩, by simp [intOf]; omega⟩
            · go_wp2_with (fail)
              exact ⟨⟨i + 1, _, by omega, by go_num, (HB.out).mono (by omega)⟩, by simp [intOf]; omega⟩
      · as_aux_lemma =>
            have hvb := HB.out.vb
            have f0 := cell_of_cells hvb 0
            have f1 := cell_of_cells hvb 1
            have f2 := cell_of_cells hvb 2
            have f3 := cell_of_cells hvb 3
            have f4 := cell_of_cells hvb 4
            have fm := mark_of_cells hvb
            have hAw := lt_of_cells hvb
            simp at f0 f1 f2 f3 f4
            clear hvb
            go_wp2_with (fail)
            exact ⟨⟨i + 1, _, by omega, by go_num, (HB.out.reset).mono (by omega)⟩, by simp [intOf]; omega⟩
      · as_aux_lemma =>
            go_wp2_with (go_at_call 15; refine (snapshot_any A i w _ q _ HB.out (by omega)).mono ?_; rintro _ w1 ⟨rfl, q1, hq1⟩; have HQ1 := hidden hq1; clear hq1)
            exact ⟨⟨i + 1, q1, by omega, by go_num, HQ1.out⟩, by simp [intOf]; omega⟩
    · as_aux_lemma =>
          obtain rfl : i = n := by omega
          go_wp2_with (go_at_call 15; refine (snapshot_any A i w _ q _ HB.out (by omega)).mono ?_; rintro _ w1 ⟨rfl, q1, hq1⟩; have HQ1 := hidden hq1; have f0 := cell_of_cells hq1.vo 0; simp at f0; clear hq1)
          go_ret
          exact ⟨q1, rfl, by rw [hA]; exact HQ1.out⟩
end Go.Proofs.Qxb6500679a
