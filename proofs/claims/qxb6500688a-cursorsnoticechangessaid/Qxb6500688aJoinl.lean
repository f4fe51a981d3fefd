import Derived.Test.Qxb6500688aJbase
import Derived.Test.Qxb6500688aRotl
import Derived.Test.Qxb6500688aRotr
namespace Go.Proofs.Qxb6500688a
open Go.RowKit Go.BigFrame
set_option linter.unusedSimpArgs false
attribute [local go_sem] ext_cell_if ext_frozen_if alloc_cell_if alloc_frozen_if ext_size ext_ext
set_option maxRecDepth 100000 in
set_option maxHeartbeats 2000000 in
theorem joinLeft_any (r : T) : ∀ (l : T) (b : Nat) (g : G) (w : World), l.Rep w → r.Rep w → Raw w b g → (l.blocks ++ b :: r.blocks).Nodup → l.sz + r.sz ≤ 50000 → l.ht + 1 < r.ht →
    Calls Try.prog 41 #[l.ptr, .pointer (some ⟨b, 0, none⟩), r.ptr] w (JoinOK w l b g r) := by
  induction r with
  | nil => intro l b g w _ _ _ _ _ hh; simp [T.ht] at hh
  | node rb rl rg rr ih _ =>
    intro l b g w hl hr hb hn hsz hh
    have HL := hidden hl
    have HR := hidden hr
    have HB := hidden hb
    have HN := hidden hn
    have HS := hidden hsz
    have hrb := lt_of_cells hr.1
    obtain ⟨c0, c1⟩ := row_cells hr.1
    have hn' : ((l.blocks ++ b :: rl.blocks) ++ rb :: rr.blocks).Nodup := by
      rw [T.blocks_node] at hn
      simpa using hn
    have hn1 : (l.blocks ++ b :: rl.blocks).Nodup := (List.nodup_append.1 hn').1
    have HN1 := hidden hn1
    have hrbn : rb ∉ l.blocks ++ b :: rl.blocks := fun e => (List.nodup_append.1 hn').2.2 rb e rb (by simp) rfl
    have hrrb : ∀ k ∈ rr.blocks, k ∉ l.blocks ++ b :: rl.blocks := fun k hk e => (List.nodup_append.1 hn').2.2 k e k (by simp [hk]) rfl
    have hbb : b ∉ l.blocks ∧ b ∉ rl.blocks := by
      rw [List.nodup_append] at hn1
      exact ⟨fun e => hn1.2.2 b e b (by simp) rfl, (List.nodup_cons.1 hn1.2.1).1⟩
    have hz1 := rr.ht_sz
    have hz2 := rl.ht_sz
    have hz3 := l.ht_sz
    have hsz' : l.sz + (rl.sz + 1 + rr.sz) ≤ 50000 := hsz
    have hh' : l.ht + 1 < 1 + max rl.ht rr.ht := hh
    have A1 := hidden (height_any rl w hr.2.1)
    have A2 := hidden (height_any l w hl)
    show Calls Try.prog 41 #[l.ptr, .pointer (some ⟨b, 0, none⟩), .pointer (some ⟨rb, 0, none⟩)] w _
    clear hl hr hb hn hsz hh hn1 hn'
    go_enter Try.func41, Try.ntmps41
    by_cases hA : rl.ht ≤ l.ht + 1
    · have L1 : Hid (Calls Try.prog 42 #[l.ptr, .pointer (some ⟨b, 0, none⟩), rl.ptr] w fun e w' => e = .returned (.pointer (some ⟨b, 0, none⟩)) ∧ (T.node b l g rl).Rep w' ∧ Tw [b] w w') :=
        link_any l rl b g w HL.out HR.out.2.1 HB.out hbb.1 hbb.2 (by omega)
      go_upto_region 3 with (first
        | (go_at_call_of 15 (T.ptr rl); (with_reducible refine A1.out.mono ?_); rintro _ w ⟨rfl, rfl⟩)
        | (go_at_call_of 15 (T.ptr l); (with_reducible refine A2.out.mono ?_); rintro _ w ⟨rfl, rfl⟩)
        | (go_at_call 42; (with_reducible refine L1.out.mono ?_); rintro _ w1 ⟨rfl, hr1, ht1⟩; have HR1 := hidden hr1; have HT1 := hidden ht1; clear hr1 ht1))
      have hw1 : w1.heap[rb]? = some (.cells (row rl rg rr) 54) := (HT1.out.2.1 rb hrb (by simp; rintro rfl; exact hrbn (by simp))).trans HR.out.1
      have hrb1 := lt_of_cells hw1
      have hb1 := lt_of_cells HR1.out.1
      obtain ⟨d0, d1⟩ := row_cells hw1
      have d2 := ht_cell HR1.out.1
      have hT : Tw (l.blocks ++ b :: rl.blocks) w w1 := HT1.out.mono (by simp)
      have HT := hidden hT
      obtain ⟨N, hN⟩ : ∃ N, 1 + max l.ht rl.ht = N := ⟨_, rfl⟩
      rw [hN] at d2
      have hrr : rr.Rep w1 := HR.out.2.2.tw hT hrrb
      have HRR := hidden hrr
      clear hw1 hT hrr c0 c1
      refine wp_region_ext (by kernel_rfl) (by kernel_rfl) ?_
      repeat (go_big_quiet_step ((go_at_call 15; first | exact Calls_ext (height_ext rr w1 HRR.out _) | exact Calls_ext2 (height_ext rr w1 HRR.out _))))
      rintro w2 ⟨x2, rfl⟩
      have hR2 : (T.node b l g rl).Rep (ext w1 x2) := HR1.out.tw (Tw.of_ext w1 x2) (by simp)
      have HR2 := hidden hR2
      have HT2 := hidden (HT.out.ext x2)
      clear hR2
      by_cases hB : N ≤ rr.ht + 1
      · have L2 : Hid (Calls Try.prog 42 #[.pointer (some ⟨b, 0, none⟩), .pointer (some ⟨rb, 0, none⟩), rr.ptr] (ext w1 x2) fun e w' => e = .returned (.pointer (some ⟨rb, 0, none⟩)) ∧ (T.node rb (T.node b l g rl) rg rr).Rep w' ∧ Tw [rb] (ext w1 x2) w') :=
          glueL (t' := T.node b l g rl) HR.out HN.out rfl HT2.out HR2.out HS.out
        go_wp2_with (go_at_call 42; (with_reducible refine L2.out.mono ?_); rintro _ w3 ⟨rfl, hr3, ht3⟩; have HR3 := hidden hr3; have HT3 := hidden ht3; clear hr3 ht3)
        go_ret
        exact ⟨T.node rb (T.node b l g rl) rg rr, rfl, by simp [T.seq], HR3.out, (HT2.out.mono (by simp [T.blocks_node]; intro k hk; rcases hk with hk | hk | hk <;> simp [hk])).trans (HT3.out.mono (by simp [T.blocks_node]))⟩
      · cases rl with
        | nil => simp [T.ht] at hN hh'; omega
        | node yb yl yg yr =>
          have hrbx : (ext w1 x2).heap[rb]? = some (.cells (row (T.node yb yl yg yr) rg rr) 54) := (HT2.out.2.1 rb hrb hrbn).trans HR.out.1
          have HX := hidden hrbx
          obtain ⟨_, z0⟩ := row_cells hrbx
          have R1 : Hid (Calls Try.prog 43 #[.pointer (some ⟨b, 0, none⟩)] (ext w1 x2).drew fun e w' => e = .returned (.pointer (some ⟨yb, 0, none⟩)) ∧ (T.node yb (.node b l g yl) yg yr).Rep w' ∧ Tw [b, yb] (ext w1 x2).drew w') :=
            rotateLeft_any b yb l yl yr g yg (ext w1 x2).drew HR2.out.drew (by rw [T.blocks_node]; exact HN1.out) (by simp only [T.sz] at hsz'; omega)
          have TT : Hid (∀ w3, Tw [b, yb] (ext w1 x2).drew w3 → Tw (l.blocks ++ b :: (T.node yb yl yg yr).blocks) w w3) := fun w3 h3 => HT2.out.drew.trans (h3.mono (by simp [T.blocks_node]))
          have L2 : Hid (∀ w3, Tw [b, yb] (ext w1 x2).drew w3 → (T.node yb (.node b l g yl) yg yr).Rep w3 → Calls Try.prog 42 #[.pointer (some ⟨yb, 0, none⟩), .pointer (some ⟨rb, 0, none⟩), rr.ptr] w3 fun e w' => e = .returned (.pointer (some ⟨rb, 0, none⟩)) ∧ (T.node rb (T.node yb (.node b l g yl) yg yr) rg rr).Rep w' ∧ Tw [rb] w3 w') := fun w3 h3 h4 =>
            glueL (t' := T.node yb (.node b l g yl) yg yr) (g := g) HR.out HN.out (by simp [T.seq]) (TT.out w3 h3) h4 HS.out
          have R2 : Hid (∀ w4, (T.node rb (T.node yb (.node b l g yl) yg yr) rg rr).Rep w4 → Calls Try.prog 44 #[.pointer (some ⟨rb, 0, none⟩)] w4 fun e w' => e = .returned (T.node yb (.node b l g yl) yg (.node rb yr rg rr)).ptr ∧ (T.node yb (.node b l g yl) yg (.node rb yr rg rr)).Rep w' ∧ Tw [rb, yb] w4 w') := fun w4 h4 =>
            rotateRight_any rb yb (.node b l g yl) yr rr rg yg w4 h4 (by have := HN.out; simpa [T.blocks_node] using this) (by simp only [T.sz] at hsz' ⊢; omega)
          clear hrbx d0 d1 d2
          go_upto_region 5 with (fail)
          go_region_with (first
            | (go_at_call 43; (with_reducible refine R1.out.mono ?_); rintro _ w3 ⟨rfl, hr3, ht3⟩; have hz := (ht3.2.1 rb (lt_of_cells HX.out) (by intro e; apply hrbn; simp [T.blocks_node] at e ⊢; rcases e with rfl | rfl <;> simp)).trans HX.out; obtain ⟨_, z2⟩ := row_cells hz; clear hz)
            | (go_at_call 42; (with_reducible refine (L2.out w3 ht3 hr3).mono ?_); rintro _ w4 ⟨rfl, hr4, ht4⟩)
            | (go_at_call 44; (with_reducible refine (R2.out w4 hr4).mono ?_); rintro _ w5 ⟨rfl, hr5, ht5⟩))
          all_goals
            go_wp2
            go_ret
            refine ⟨_, rfl, by simp [T.seq], hr5, ?_⟩
            exact (((TT.out w3 ht3).mono (by simp [T.blocks_node]; intro k hk; rcases hk with hk | hk | hk | hk | hk <;> simp [hk])).trans (ht4.mono (by simp [T.blocks_node]))).trans (ht5.mono (by simp [T.blocks_node]))
    · have J : Hid (Calls Try.prog 41 #[l.ptr, .pointer (some ⟨b, 0, none⟩), rl.ptr] w.drew (JoinOK w.drew l b g rl)) :=
        ih l b g w.drew HL.out.drew HR.out.2.1.drew (Raw.keep HB.out rfl) HN1.out (by omega) (by omega)
      have TT : Hid (∀ w3, Tw (l.blocks ++ b :: rl.blocks) w.drew w3 → Tw (l.blocks ++ b :: rl.blocks) w w3) := fun w3 h3 => ((Tw.refl w).drew.mono (by simp)).trans h3
      have L2 : Hid (∀ (t' : T) w3, Tw (l.blocks ++ b :: rl.blocks) w.drew w3 → t'.seq = l.seq ++ (b, g) :: rl.seq → t'.Rep w3 → Calls Try.prog 42 #[t'.ptr, .pointer (some ⟨rb, 0, none⟩), rr.ptr] w3 fun e w' => e = .returned (.pointer (some ⟨rb, 0, none⟩)) ∧ (T.node rb t' rg rr).Rep w' ∧ Tw [rb] w3 w') := fun t' w3 h3 hs h4 =>
        glueL HR.out HN.out hs (TT.out w3 h3) h4 HS.out
      clear ih
      go_upto_region 6 with (first
        | (go_at_call_of 15 (T.ptr rl); (with_reducible refine A1.out.mono ?_); rintro _ w ⟨rfl, rfl⟩)
        | (go_at_call_of 15 (T.ptr l); (with_reducible refine A2.out.mono ?_); rintro _ w ⟨rfl, rfl⟩))
      go_region_with (first
        | (go_at_call 41; (with_reducible refine J.out.mono ?_); rintro _ w3 ⟨t', rfl, hs3, hr3, ht3⟩; have hz := (ht3.2.1 rb hrb hrbn).trans HR.out.1; obtain ⟨_, z2⟩ := row_cells hz; clear hz)
        | (go_at_call 42; (with_reducible refine (L2.out t' w3 ht3 hs3 hr3).mono ?_); rintro _ w4 ⟨rfl, hr4, ht4⟩))
      all_goals
        go_simp
        have hrb4 := lt_of_cells hr4.1
        obtain ⟨y0, y1⟩ := row_cells hr4.1
        have H1 := hidden (height_ext rr w4 hr4.2.2)
        have H2 := hidden (height_ext t' w4 hr4.2.1)
        have HR4 := hidden hr4
        have HT4 := hidden (((TT.out w3 ht3).mono (S' := l.blocks ++ b :: (T.node rb rl rg rr).blocks) (by simp [T.blocks_node]; intro k hk; rcases hk with hk | hk | hk <;> simp [hk])).trans (ht4.mono (by simp [T.blocks_node])))
        have hts := sz_of hs3
        have htz := t'.ht_sz
        have hs4 : (T.node rb t' rg rr).seq = l.seq ++ (b, g) :: (T.node rb rl rg rr).seq := by simp [T.seq, hs3]
        have HS4 := hidden hs4
        have HS3 := hidden hs3
        clear hr4 ht4 hr3 ht3 hs3 hs4 z2
        go_upto_region 7 with (fail)
        refine wp_region_ext (by kernel_rfl) (by kernel_rfl) ?_
        repeat (go_big_quiet_step ((first | (go_at_call_of 15 (T.ptr rr); first | exact Calls_ext (H1.out _) | exact Calls_ext2 (H1.out _)) | (go_at_call_of 15 (T.ptr t'); first | exact Calls_ext (H2.out _) | exact Calls_ext2 (H2.out _)))))
        rintro w5 ⟨x5, rfl⟩
        have hR5 : (T.node rb t' rg rr).Rep (ext w4 x5) := HR4.out.tw (Tw.of_ext w4 x5) (by simp)
        have HR5 := hidden hR5
        have HT5 := hidden (HT4.out.ext x5)
        clear hR5
        by_cases hC : t'.ht ≤ rr.ht + 1
        · go_wp2_with (fail)
          go_ret
          exact ⟨T.node rb t' rg rr, rfl, HS4.out, HR5.out, HT5.out⟩
        · obtain ⟨yb, yl, yg, yr, rfl⟩ := T.nonnil HS3.out
          have R2 : Hid (Calls Try.prog 44 #[.pointer (some ⟨rb, 0, none⟩)] (ext w4 x5) fun e w' => e = .returned (T.node yb yl yg (.node rb yr rg rr)).ptr ∧ (T.node yb yl yg (.node rb yr rg rr)).Rep w' ∧ Tw [rb, yb] (ext w4 x5) w') :=
            rotateRight_any rb yb yl yr rr rg yg (ext w4 x5) HR5.out (by rw [blocks_of HS4.out]; have := HN.out; simpa [T.blocks] using this) (by simp only [T.sz] at hts ⊢; omega)
          have hyb : yb ∈ l.blocks ++ b :: (T.node rb rl rg rr).blocks := by
            have h1 := blocks_of HS3.out
            have h2 : yb ∈ (T.node yb yl yg yr).blocks := by simp [T.blocks_node]
            rw [h1] at h2
            simp [T.blocks_node]
            simp [T.blocks] at h2 ⊢
            rcases h2 with h2 | h2 | h2
            · exact .inl h2
            · exact .inr (.inl h2)
            · exact .inr (.inr (.inl h2))
          go_wp2_with (go_at_call 44; (with_reducible refine R2.out.mono ?_); rintro _ w6 ⟨rfl, hr6, ht6⟩)
          go_ret
          refine ⟨_, rfl, ?_, hr6, HT5.out.trans (ht6.mono (by simp [T.blocks_node]; simpa [T.blocks_node] using hyb))⟩
          rw [← HS4.out]; simp [T.seq]
end Go.Proofs.Qxb6500688a
