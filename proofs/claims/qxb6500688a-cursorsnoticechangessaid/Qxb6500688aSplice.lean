import Derived.Test.Qxb6500688aSpk
import Derived.OwnWalk
namespace Go.Proofs.Qxb6500688a
open Go.RowKit Go.BigFrame
set_option linter.unusedSimpArgs false
attribute [local go_sem] ext_cell_if ext_frozen_if alloc_cell_if alloc_frozen_if ext_size ext_ext
theorem ptr_form (t : T) : ∃ p, t.ptr = .pointer p := by cases t <;> exact ⟨_, rfl⟩
theorem u64_bnd (z : Int) : 0 ≤ IntKind.u64.wrap z ∧ IntKind.u64.wrap z ≤ 18446744073709551615 := by simp [IntKind.wrap, IntKind.bits, IntKind.signed]; omega
set_option maxRecDepth 100000 in
set_option maxHeartbeats 2000000 in
theorem splice_any (ib : Nat) (t : T) (ver lo hi dA dB : Int) (v : Value) (m : Nat) (w : World) (hx : Ix w ib t ver) (hh : Hk w v m) (hm : m ≤ 65536) :
    Calls Try.prog 17 #[.pointer (some ⟨ib, 0, none⟩), .int .i64 lo, .int .i64 hi, v, .int .i64 dA, .int .i64 dB] w (SpliceOK ib t ver w) := by
  have HX := hidden hx
  have HH := hidden hh
  have LN := hidden (len_any ib t ver w hx)
  have hsz := hx.sz
  obtain ⟨a, c, rfl, _⟩ := hh
  clear hx
  obtain ⟨i4, hi4, ha4, hb4, hc4⟩ := info_parts Try.inf41
  go_enter Try.func17, Try.ntmps17
  by_cases h1 : lo < 0
  · go_wp2_with (go_at_call 13; (with_reducible refine LN.out.mono ?_); rintro _ w ⟨rfl, rfl⟩)
    go_ret
    exact .no 1 (by decide) (by decide) (Gr.refl _)
  by_cases h2 : (t.sz : Int) < hi
  · go_wp2_with (go_at_call 13; (with_reducible refine LN.out.mono ?_); rintro _ w ⟨rfl, rfl⟩)
    go_ret
    exact .no 1 (by decide) (by decide) (Gr.refl _)
  by_cases h3 : hi < lo
  · go_wp2_with (go_at_call 13; (with_reducible refine LN.out.mono ?_); rintro _ w ⟨rfl, rfl⟩)
    go_ret
    exact .no 1 (by decide) (by decide) (Gr.refl _)
  obtain ⟨lo, rfl⟩ : ∃ k : Nat, lo = k := ⟨lo.toNat, by omega⟩
  obtain ⟨hi, rfl⟩ : ∃ k : Nat, hi = k := ⟨hi.toNat, by omega⟩
  have hlh : lo ≤ hi := by omega
  have hhn : hi ≤ t.sz := by omega
  clear h1 h2 h3
  have d1 : decide ((lo : Int) < 0) = false := by simp
  have d2 : decide (t.sz < hi) = false := by simp; omega
  have d3 : decide (hi < lo) = false := by simp; omega
  go_wp2_with (go_at_call 13; (with_reducible refine LN.out.mono ?_); rintro _ w ⟨rfl, rfl⟩)
  clear d1 d2 d3
  obtain ⟨C, hC⟩ : ∃ C, w.heap.size = C := ⟨_, rfl⟩
  have HC := hidden hC
  clear hC LN
  go_loopw [46] (fun s wi => ∃ i : Nat, s = .int .i64 i ∧ i ≤ m ∧ Gr C w wi) (fun s _ => m - (intOf s).toNat)
  case atStart => exact ⟨0, rfl, by omega, by rw [← HC.out]; exact Gr.refl w⟩
  case round =>
    obtain ⟨i, rfl, him, hg⟩ := hrel
    have HG := hidden hg
    clear hg
    by_cases hi' : i < m
    · obtain ⟨a', c', e', hcs0⟩ := HH.out
      obtain ⟨b, off, e2, hb, hcs⟩ := hcs0 (by omega)
      clear hcs0
      simp at e'
      obtain ⟨rfl, rfl⟩ := e'
      subst e2
      have hbC : b < C := by rw [← HC.out]; exact hb
      obtain ⟨z0, c0, _⟩ := hcs (i * 4) (by omega)
      obtain ⟨z1, c1, _⟩ := hcs (i * 4 + 1) (by omega)
      obtain ⟨z2, c2, _⟩ := hcs (i * 4 + 2) (by omega)
      obtain ⟨z3, c3, _⟩ := hcs (i * 4 + 3) (by omega)
      have kp : ∀ o, wr.cell? ⟨b, o, none⟩ = w.cell? ⟨b, o, none⟩ := fun o => HG.out.1.cell (p := ⟨b, o, none⟩) hbC
      rw [← kp] at c0 c1 c2 c3
      simp only [← Nat.add_assoc] at c1 c2 c3
      clear hcs kp
      go_wp2_with (go_at_call 32; refine (wellFormed_any _ _ _ _ _).mono ?_; rintro _ _ ⟨⟨ok, rfl⟩, x2, rfl⟩)
      · go_ret
        exact .no 2 (by decide) (by decide) (by rw [HC.out]; exact (HG.out.alloc _).ext x2)
      · exact ⟨⟨i + 1, by go_num, by omega, (HG.out.alloc _).ext x2⟩, by simp [intOf]; omega⟩
    · obtain rfl : m = i := by omega
      clear hi' him
      obtain ⟨S, hS⟩ : ∃ S, wr.heap.size = S := ⟨_, rfl⟩
      have hSC : C ≤ S := by rw [← hS]; exact HG.out.2
      go_upto_if 59 with (at_make; refine wpList_make_own _ rfl _ _ 27 rfl C 41 i4 _ 4 Try.underlying27 hi4 ha4 hb4 .i64 .i64 ((m : Int) + 2) (m + 2) rfl (by simp [Act.eval]) (by omega) (by rw [hc4]; omega) (by unfold maxLen; omega) HG.out.2 ?_; intro w2 hown2 hgrow2)
      have HG2 := hidden (HG.out.grown hgrow2 (by simp))
      have HR2 := hidden (Rw.of_own (by rw [← hS]; exact hown2) (by simp) : Rw w2 S 0 (m + 2))
      clear hown2 hgrow2 HG hS
      clear wr
      go_cut [1, 16] (fun s1 s16 wc => ∃ l k : Nat, s1 = .int .i64 l ∧ l ≤ lo ∧ s16 = .slice (some ⟨S, 0, none⟩) k (m + 2) ∧ k ≤ 1 ∧ Gr C w wc ∧ Rw wc S k (m + 2))
      case first =>
        by_cases h0 : lo = 0
        · subst h0
          go_wp2_with (fail)
          go_meet
          case rel => exact ⟨0, 0, rfl, by omega, rfl, by omega, HG2.out, HR2.out⟩
        · obtain ⟨l, rfl⟩ : ∃ l, lo = l + 1 := ⟨lo - 1, by omega⟩
          have hl : l < t.seq.length := by rw [T.sz_seq]; omega
          have AT := hidden (at_any ib t ver l t.seq[l] w2 (HX.out.gr (by rw [HC.out]; exact HG2.out)) (List.getElem?_eq_getElem hl))
          generalize t.seq[l] = p at *
          simp only [hunkOf] at AT
          have bA := hidden (wrap64_bd (totA (t.seq.take l) + p.2.ga))
          have bB := hidden (wrap64_bd (totB (t.seq.take l) + p.2.gb))
          generalize wrap64 (totA (t.seq.take l) + p.2.ga) = XA at *
          generalize wrap64 (totB (t.seq.take l) + p.2.gb) = XB at *
          clear hl
          go_wp2_with (first
            | (go_at_call 14; (with_reducible refine AT.out.mono ?_); rintro _ _ ⟨rfl, x2, rfl⟩)
            | (at_builtin; refine wpList_append_hk rfl (.tmp 62) (.tmp 66) 27 rfl i4 _ Try.underlying27 hi4 ha4 hb4 hc4 rfl S 0 1 (m + 2) _ (by simp [Act.eval]) (by simp [Act.eval]; rfl) (hk_new _ _ (by simp [ext_size]) bA.out p.2.ha bB.out p.2.hb) ((HR2.out.ext x2).alloc _) (by omega) (by omega) ?_; intro w3 hr3 _ htw3))
          go_meet
          case rel => exact ⟨l, 1, by go_num, by omega, rfl, by omega, htw3.2.2 C w ((HG2.out.ext x2).alloc _) (by simp; omega), hr3⟩
      case rest =>
        clear HG2 HR2
        clear w2
        obtain ⟨l, k, rfl, hl, rfl, hk, hg, hr⟩ := hcut
        have HG := hidden hg
        have HR := hidden hr
        have HH1 := hidden (HH.out.gr (by rw [HC.out]; exact hg))
        clear hg hr
        go_upto_if 73 with (at_builtin; refine wpList_append_hk rfl (.tmp 68) (.tmp 69) 27 rfl i4 _ Try.underlying27 hi4 ha4 hb4 hc4 rfl S k m (m + 2) _ (by simp [Act.eval]) (by simp [Act.eval]) HH1.out HR.out (by omega) (by omega) ?_; intro w3 hr3 _ htw3)
        have HG3 := hidden (htw3.2.2 C w HG.out (by simp; omega))
        have HR3 := hidden hr3
        clear HG HR HH1 hr3 htw3
        obtain ⟨q, hq⟩ : ∃ q, k + m = q := ⟨_, rfl⟩
        have hqm : q ≤ m + 1 := by omega
        rw [hq] at HR3 ⊢
        clear hq hk
        go_cut [2, 16] (fun s2 s16 wc => ∃ h k : Nat, s2 = .int .i64 h ∧ hi ≤ h ∧ h ≤ t.sz ∧ s16 = .slice (some ⟨S, 0, none⟩) k (m + 2) ∧ k ≤ m + 2 ∧ Gr C w wc ∧ Rw wc S k (m + 2))
        case first =>
          by_cases hn : hi < t.sz
          · by_cases a1 : dA < -1073741824
            · go_wp2_with (fail)
              go_ret
              exact .no 3 (by decide) (by decide) (by rw [HC.out]; exact HG3.out)
            by_cases a2 : 1073741824 < dA
            · go_wp2_with (fail)
              go_ret
              exact .no 3 (by decide) (by decide) (by rw [HC.out]; exact HG3.out)
            by_cases a3 : dB < -1073741824
            · go_wp2_with (fail)
              go_ret
              exact .no 3 (by decide) (by decide) (by rw [HC.out]; exact HG3.out)
            by_cases a4 : 1073741824 < dB
            · go_wp2_with (fail)
              go_ret
              exact .no 3 (by decide) (by decide) (by rw [HC.out]; exact HG3.out)
            have hl2 : hi < t.seq.length := by rw [T.sz_seq]; omega
            have hx3 := HX.out.gr (w' := w3) (by rw [HC.out]; exact HG3.out)
            have AT := hidden (at_any ib t ver hi t.seq[hi] w3 hx3 (List.getElem?_eq_getElem hl2))
            have EN : Hid (∀ w4, Gr w3.heap.size w3 w4 → Calls Try.prog 33 #[.pointer (some ⟨ib, 0, none⟩)] w4 fun e w' => e = .returned (.tuple #[.int .i64 (wrap64 (totA t.seq)), .int .i64 (wrap64 (totB t.seq))]) ∧ ∃ x, w' = ext w4 x) := fun w4 h4 => ends_any ib t ver w4 (hx3.gr h4)
            generalize t.seq[hi] = p at *
            simp only [hunkOf] at AT
            generalize wrap64 (totA (t.seq.take hi) + p.2.ga) = XA at *
            generalize wrap64 (totB (t.seq.take hi) + p.2.gb) = XB at *
            have eA := hidden (wrap64_bd (totA t.seq))
            have eB := hidden (wrap64_bd (totB t.seq))
            generalize wrap64 (totA t.seq) = EA at *
            generalize wrap64 (totB t.seq) = EB at *
            clear hl2 hx3
            have pA := hidden p.2.ha
            have pB := hidden p.2.hb
            generalize p.2.la = LA at *
            generalize p.2.lb = LB at *
            go_upto_region 19 with (go_at_call 14; (with_reducible refine AT.out.mono ?_); rintro _ _ ⟨rfl, x2, rfl⟩)
            obtain ⟨D, hD⟩ : ∃ D, w3.heap.size + (x2 0).1.size = D := ⟨_, rfl⟩
            rw [hD]
            refine wp_gen (fun W => Gr C w W ∧ Rw W S q (m + 2) ∧ Gr w3.heap.size w3 W ∧ W.heap[D]? = some (.cells #[.int .i64 XA, .int .i64 LA, .int .i64 XB, .int .i64 LB] 41)) ⟨(HG3.out.ext x2).alloc _, (HR3.out.ext x2).alloc _, ((Gr.refl w3).ext x2).alloc _, by have := heap_new (ext w3 x2) (.cells #[.int .i64 XA, .int .i64 LA, .int .i64 XB, .int .i64 LB] 41); rw [ext_size, hD] at this; exact this⟩ ?_
            have hSD : ¬ S = D := by have := HR3.out.lt; omega
            have hDC : C ≤ D := by have := HG3.out.2; omega
            have hD3 : w3.heap.size ≤ D := by omega
            clear HG3 HR3 AT hD
            clear x2
            rintro w4 ⟨hg4, hr4, h34, hv4⟩
            have HG4 := hidden hg4
            have HR4 := hidden hr4
            have H34 := hidden h34
            have HV4 := hidden hv4
            have k0 := cell_of_cells hv4 0
            have k2 := cell_of_cells hv4 2
            have km := mark_of_cells hv4
            have hDw := lt_of_cells hv4
            simp at k0 k2
            clear hg4 hr4 h34 hv4
            go_upto_region 22 with (go_at_call 33; (with_reducible refine (EN.out _ ((H34.out.setCell hD3 _).setCell hD3 _)).mono ?_); rintro _ _ ⟨rfl, x3, rfl⟩)
            have bYA := hidden (wrap64_bd (XA + dA))
            have bYB := hidden (wrap64_bd (XB + dB))
            generalize wrap64 (XA + dA) = YA at *
            generalize wrap64 (XB + dB) = YB at *
            refine wp_gen (fun W => Gr C w W ∧ Rw W S q (m + 2) ∧ W.heap[D]? = some (.cells #[.int .i64 YA, .int .i64 LA, .int .i64 YB, .int .i64 LB] 41)) ⟨((HG4.out.setCell hDC _).setCell hDC _).ext x3, (HR4.out.keep ((blk_far hSD _ _).trans (blk_far hSD _ _))).ext x3, by
              have := blk_ext (x := x3) (blk_set (blk_set HV4.out 0 (.int .i64 YA)) 2 (.int .i64 YB))
              simpa using this⟩ ?_
            clear k0 k2 km hDw HG4 HR4 H34 HV4 EN
            clear x3
            rintro w6 ⟨hg6, hr6, hv6⟩
            have HG6 := hidden hg6
            have HR6 := hidden hr6
            have HV6 := hidden hv6
            have k0 := cell_of_cells hv6 0
            have k1 := cell_of_cells hv6 1
            have k2 := cell_of_cells hv6 2
            have k3 := cell_of_cells hv6 3
            have hDw := lt_of_cells hv6
            simp at k0 k1 k2 k3
            clear hg6 hr6 hv6
            by_cases b1 : YA < 0
            · go_wp2_with (fail)
              go_ret
              exact .no 3 (by decide) (by decide) (by rw [HC.out]; exact HG6.out)
            by_cases b2 : YB < 0
            · go_wp2_with (fail)
              go_ret
              exact .no 3 (by decide) (by decide) (by rw [HC.out]; exact HG6.out)
            by_cases b3 : 1073741824 < wrap64 (EA + dA)
            · go_wp2_with (fail)
              go_ret
              exact .no 3 (by decide) (by decide) (by rw [HC.out]; exact HG6.out)
            by_cases b4 : 1073741824 < wrap64 (EB + dB)
            · go_wp2_with (fail)
              go_ret
              exact .no 3 (by decide) (by decide) (by rw [HC.out]; exact HG6.out)
            go_wp2_with (at_builtin; refine wpList_append_hk rfl (.tmp 126) (.tmp 128) 27 rfl i4 _ Try.underlying27 hi4 ha4 hb4 hc4 rfl S q 1 (m + 2) _ (by simp [Act.eval]) (by simp [Act.eval]; rfl) (hk_new _ _ (by simp [ext_size]) bYA.out pA.out bYB.out pB.out) (HR6.out.alloc _) (by omega) (by omega) ?_; intro w7 hr7 _ htw7)
            go_meet
            case rel => exact ⟨hi + 1, q + 1, by go_num, by omega, by omega, rfl, by omega, htw7.2.2 C w (HG6.out.alloc _) (by simp; omega), hr7⟩
          · obtain rfl : hi = t.sz := by omega
            go_wp2_with (fail)
            go_meet
            case rel => exact ⟨t.sz, q, rfl, by omega, by omega, rfl, by omega, HG3.out, HR3.out⟩
        case rest =>
          clear HG3 HR3
          obtain ⟨h, k, rfl, hhl, hht, rfl, hk, hg, hr⟩ := hcut
          have HG := hidden hg
          have HR := hidden hr
          clear hg hr
          go_wp2_with (fail)
          go_loopw [20] (fun s20 wi => ∃ i : Nat, s20 = .int .i64 i ∧ 1 ≤ i ∧ Gr C w wi ∧ Rw wi S k (m + 2)) (fun s _ => k - (intOf s).toNat)
          case atStart => exact ⟨1, rfl, by omega, HG.out, HR.out⟩
          case round =>
            clear HG HR
            obtain ⟨i, rfl, hi1, hg, hr⟩ := hrel
            have HG := hidden hg
            have HR := hidden hr
            by_cases hik : i < k
            · obtain ⟨j, rfl⟩ : ∃ j, i = j + 1 := ⟨i - 1, by omega⟩
              obtain ⟨z0, c0, _⟩ := hr.at ((j + 1) * 4) (by omega)
              obtain ⟨z2, c2, _⟩ := hr.at ((j + 1) * 4 + 2) (by omega)
              obtain ⟨y0, e0, _⟩ := hr.at (j * 4) (by omega)
              obtain ⟨y1, e1, _⟩ := hr.at (j * 4 + 1) (by omega)
              obtain ⟨y2, e2, _⟩ := hr.at (j * 4 + 2) (by omega)
              obtain ⟨y3, e3, _⟩ := hr.at (j * 4 + 3) (by omega)
              have hSw := hr.lt
              have AE := hidden (aEnd_any y0 y1 y2 y3)
              have BE := hidden (bEnd_any y0 y1 y2 y3)
              generalize wrap64 (y0 + y1) = YA at *
              generalize wrap64 (y2 + y3) = YB at *
              clear hg hr
              go_upto_region 29 with (fail)
              by_cases g1 : z0 < YA
              · refine wp_region_ext (by kernel_rfl) (by kernel_rfl) ?_
                repeat (go_big_quiet_step ((first | (go_at_call 27; first | exact Calls_ext (AE.out _) | exact Calls_ext2 (AE.out _)) | (go_at_call 28; first | exact Calls_ext (BE.out _) | exact Calls_ext2 (BE.out _)))))
                rintro w2 ⟨x, rfl⟩
                go_wp2_with (fail)
                go_ret
                exact .no 3 (by decide) (by decide) (by rw [HC.out]; exact HG.out.ext x)
              by_cases g2 : z2 < YB
              · refine wp_region_ext (by kernel_rfl) (by kernel_rfl) ?_
                repeat (go_big_quiet_step ((first | (go_at_call 27; first | exact Calls_ext (AE.out _) | exact Calls_ext2 (AE.out _)) | (go_at_call 28; first | exact Calls_ext (BE.out _) | exact Calls_ext2 (BE.out _)))))
                rintro w2 ⟨x, rfl⟩
                go_wp2_with (fail)
                go_ret
                exact .no 3 (by decide) (by decide) (by rw [HC.out]; exact HG.out.ext x)
              · refine wp_region_ext (by kernel_rfl) (by kernel_rfl) ?_
                repeat (go_big_quiet_step ((first | (go_at_call 27; first | exact Calls_ext (AE.out _) | exact Calls_ext2 (AE.out _)) | (go_at_call 28; first | exact Calls_ext (BE.out _) | exact Calls_ext2 (BE.out _)))))
                rintro w2 ⟨x, rfl⟩
                go_wp2_with (fail)
                exact ⟨⟨j + 2, by go_num, by omega, HG.out.ext x, HR.out.ext x⟩, by simp [intOf]; omega⟩
            · clear hg hr
              have MG := hidden (merge_any S k (m + 2) wr HR.out (by omega) (by omega))
              go_upto_if 174 with (go_at_call 34; (with_reducible refine MG.out.mono ?_); rintro _ w5 ⟨n', rfl, hn', hr5, htw5⟩)
              have HG5 := hidden (htw5.2.2 C w HG.out (by simp; omega))
              have HR5 := hidden (hr5.prefix n' hn')
              clear MG HG HR hr5 htw5
              by_cases hfull : (2048 : Int) < (t.sz : Int) - ((h : Int) - (l : Int)) + (n' : Int)
              · go_wp2_with (fail)
                go_ret
                exact .no 4 (by decide) (by decide) (by rw [HC.out]; exact HG5.out)
              have hx5 := HX.out.gr (w' := w5) (by rw [HC.out]; exact HG5.out)
              have c0 := cell_of_cells hx5.cell 0
              simp at c0
              have HX5 := hidden hx5
              have S1 := hidden (split_any t (l : Int) w5 hx5.rep hx5.nd (by omega) (by omega))
              have S2 : Hid (∀ (A R0 : T) w6, A.seq = t.seq.take ((l : Int)).toNat → R0.seq = t.seq.drop ((l : Int)).toNat → R0.Rep w6 → Calls Try.prog 35 #[R0.ptr, .int .i64 ((h : Int) - (l : Int))] w6 (SplitOK w6 R0 ((h : Int) - (l : Int)))) := fun A R0 w6 e1 e2 e4 => by
                obtain ⟨p1, q1⟩ := parts e1 e2
                have hnd := hx5.nd
                rw [p1, List.nodup_append] at hnd
                exact split_any R0 _ w6 e4 hnd.2.1 (by omega) (by omega)
              have L0 : Hid (∀ (A R0 A2 R : T) w6 w7, A.seq = t.seq.take ((l : Int)).toNat → R0.seq = t.seq.drop ((l : Int)).toNat → A.Rep w6 → Tw t.blocks w5 w6 → A2.seq = R0.seq.take ((h : Int) - (l : Int)).toNat → R.seq = R0.seq.drop ((h : Int) - (l : Int)).toNat → R.Rep w7 → Tw R0.blocks w6 w7 → L3 ib S n' (m + 2) ver t R w w7 A ∧ A.sz = l ∧ R.sz = t.sz - h ∧ A.Rep w7) := fun A R0 A2 R w6 w7 a1 a2 a3 a5 f1 f2 f4 f5 =>
                L3.start hx5 (by rw [HC.out]; exact HG5.out) HR5.out (by omega) hht a1 a2 a3 a5 f1 f2 f4 f5
              clear hx5
              go_wp2_with (first
                | (go_at_call 35; (with_reducible refine S1.out.mono ?_); rintro _ w6 ⟨A, R0, rfl, a1, a2, a3, a4, a5⟩; have E1 := hidden a1; have E2 := hidden a2; have E3 := hidden a3; have E4 := hidden a4; have E5 := hidden a5; clear a1 a2 a3 a4 a5)
                | (go_at_call 35; refine Calls.mono (S2.out A R0 w6 E1.out E2.out E4.out) ?_; rintro _ w7 ⟨A2, R, rfl, f1, f2, f3, f4, f5⟩; have L := L0.out A R0 A2 R w6 w7 E1.out E2.out E3.out E5.out f1 f2 f4 f5; obtain ⟨L1, hAs, hRs, hA7⟩ := L; have HL1 := hidden L1; have SP := hidden (spans_any A w7 hA7); clear f1 f2 f3 f4 f5 E1 E2 E3 E4 E5 L1 hA7)
                | (go_at_call 31; (with_reducible refine SP.out.mono ?_); rintro _ _ ⟨rfl, x8, rfl⟩))
              have HL := hidden (HL1.out.gr (w' := ext w7 x8) ((Gr.refl w7).ext x8))
              have hib : ib < C := by have := lt_of_cells HX.out.cell; rw [HC.out] at this; exact this
              have HIT := hidden HX.out.out
              have hszn : (t.sz : Int) - ((h : Int) - (l : Int)) + (n' : Int) ≤ 2048 := by omega
              clear SP HL1 S1 S2 L0 HX5 HG5 HR5 c0 hfull
              generalize wrap64 (totA A.seq) = EA
              generalize wrap64 (totB A.seq) = EB
              generalize ext w7 x8 = w8 at *
              go_loopw [21, 25, 26, 199] (fun s21 s25 s26 s199 wi => ∃ (i : Nat) (A' : T) (EA EB : Int), s199 = .int .i64 i ∧ i ≤ n' ∧ s21 = A'.ptr ∧ s25 = .int .i64 EA ∧ s26 = .int .i64 EB ∧ A'.sz = l + i ∧ L3 ib S n' (m + 2) ver t R w wi A') (fun _ _ _ s199 _ => n' - (intOf s199).toNat)
              case atStart => exact ⟨0, A, EA, EB, rfl, by omega, rfl, rfl, rfl, by omega, HL.out⟩
              case round =>
                clear HL
                obtain ⟨i, A', EA, EB, rfl, hin, rfl, rfl, rfl, hAi, hL⟩ := hrel
                have HL := hidden hL
                by_cases hi3 : i < n'
                · obtain ⟨z0, c0, b0⟩ := hL.rw.at (i * 4) (by omega)
                  obtain ⟨z1, c1, b1⟩ := hL.rw.at (i * 4 + 1) (by omega)
                  obtain ⟨z2, c2, b2⟩ := hL.rw.at (i * 4 + 2) (by omega)
                  obtain ⟨z3, c3, b3⟩ := hL.rw.at (i * 4 + 3) (by omega)
                  have hSw := hL.rw.lt
                  have hCw : C ≤ wr.heap.size := by have := hL.tw.1; rw [HC.out] at this; exact this
                  obtain ⟨D, hD⟩ : ∃ D, wr.heap.size = D := ⟨_, rfl⟩
                  have HLT : Hid (∀ k ∈ A'.blocks ++ R.blocks, k < D) := fun k hk => by
                    rw [← hD]
                    rcases List.mem_append.1 hk with hk | hk
                    · exact hL.rl.lt k hk
                    · exact hL.rr.lt k hk
                  have hAD := hidden (show ∀ k ∈ A'.blocks ++ [D + 1], k ≠ D from fun k hk e => by
                    rcases List.mem_append.1 hk with hk | hk
                    · have := HLT.out k (by simp [hk]); omega
                    · simp at hk; omega)
                  clear hL
                  go_upto_region 41 with (fail)
                  generalize wrap64 (z0 - EA) = GA
                  generalize wrap64 (z2 - EB) = GB
                  refine wp_gen (fun W => L3 ib S n' (m + 2) ver t R w W A' ∧ Raw W (D + 1) ⟨GA, GB, z1, z3, b1, b3⟩ ∧ W.heap[D]? = some (.cells #[.int .i64 z0, .int .i64 z1, .int .i64 z2, .int .i64 z3] 41)) ⟨HL.out.gr (((Gr.refl wr).alloc _).alloc _), ⟨_, _, _, _, _, _, _, _, by
                    have := heap_new (wr.alloc (.cells #[.int .i64 z0, .int .i64 z1, .int .i64 z2, .int .i64 z3] 41)) (.cells #[.pointer none, .pointer none, .int .i64 0, .int .i64 0, .int .i64 GA, .int .i64 GB, .int .i64 z1, .int .i64 z3, .int .i64 0, .int .i64 0, .int .i64 0, .int .i64 0] 54)
                    simpa [hD] using this⟩, blk_alloc (by rw [← hD]; exact heap_new _ _)⟩ ?_
                  have hCD : C ≤ D := by omega
                  clear HL c0 c1 c2 c3 hSw hD
                  rintro w9 ⟨hL9, hraw, hv9⟩
                  have JO := hidden (hL9.join hraw (fun k hk e => by have := HLT.out k hk; omega) (by rw [HC.out]; omega) (by omega))
                  have HV9 := hidden hv9
                  clear hL9 hraw hv9
                  go_upto_region 42 with (go_at_call 36; (with_reducible refine JO.out.mono ?_); rintro _ w10 ⟨t', rfl, hsz', hL', htw'⟩)
                  have hv := (htw'.2.1 D (lt_of_cells HV9.out) (fun e => hAD.out D e rfl)).trans HV9.out
                  have d0 := cell_of_cells hv 0
                  have d1 := cell_of_cells hv 1
                  have d2 := cell_of_cells hv 2
                  have d3 := cell_of_cells hv 3
                  have hDw := lt_of_cells hv
                  simp at d0 d1 d2 d3
                  have AE := hidden (aEnd_any z0 z1 z2 z3)
                  have BE := hidden (bEnd_any z0 z1 z2 z3)
                  generalize wrap64 (z0 + z1) = YA at *
                  generalize wrap64 (z2 + z3) = YB at *
                  have HL' := hidden hL'
                  clear hv hL' htw' HV9 JO
                  refine wp_region_ext (by kernel_rfl) (by kernel_rfl) ?_
                  repeat (go_big_quiet_step ((first | (go_at_call 27; first | exact Calls_ext (AE.out _) | exact Calls_ext2 (AE.out _)) | (go_at_call 28; first | exact Calls_ext (BE.out _) | exact Calls_ext2 (BE.out _)))))
                  rintro w11 ⟨x, rfl⟩
                  go_wp2_with (fail)
                  exact ⟨⟨i + 1, t', YA, YB, by go_num, by omega, rfl, rfl, rfl, by omega, HL'.out.gr ((Gr.refl _).ext x)⟩, by simp [intOf]; omega⟩
                · obtain rfl : i = n' := by omega
                  clear hL
                  have CC := hidden (HL.out.concat (by rw [HC.out]; exact hib) HIT.out (by omega))
                  have c0 := cell_of_cells HL.out.ix 0
                  have c1 := cell_of_cells HL.out.ix 1
                  have hibw := lt_of_cells HL.out.ix
                  simp at c0 c1
                  go_wp2_with (go_at_call 37; (with_reducible refine CC.out.mono ?_); rintro _ w9 ⟨t', rfl, hc9, hfin⟩; obtain ⟨pv, hpv⟩ := ptr_form t'; simp only [hpv] at hfin ⊢; have F := hidden hfin; clear hpv; have k0 := cell_of_cells hc9 0; have k1 := cell_of_cells hc9 1; have km := mark_of_cells hc9; have hibw9 := lt_of_cells hc9; simp at k0 k1; clear hfin hc9 c0 c1 hibw)
                  go_ret
                  obtain ⟨r1, r2, r3⟩ := F.out _ (u64_bnd (ver + 1))
                  exact ⟨0, rfl, by decide, .inl ⟨rfl, t', r1, r2, r3⟩⟩
end Go.Proofs.Qxb6500688a
