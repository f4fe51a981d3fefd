import Derived.Test.Qxb6500688aJbase
import Derived.Test.Qxb6500688aRotl
import Derived.Test.Qxb6500688aRotr
namespace Go.Proofs.Qxb6500688a
open Go.RowKit Go.BigFrame
set_option linter.unusedSimpArgs false
attribute [local go_sem] ext_cell_if ext_frozen_if alloc_cell_if alloc_frozen_if ext_size ext_ext
set_option maxRecDepth 100000 in
set_option maxHeartbeats 2000000 in
theorem joinRight_any (l : T) : ∀ (r : T) (b : Nat) (g : G) (w : World), l.Rep w → r.Rep w → Raw w b g → (l.blocks ++ b :: r.blocks).Nodup → l.sz + r.sz ≤ 50000 → r.ht + 1 < l.ht →
    Calls Try.prog 40 #[l.ptr, .pointer (some ⟨b, 0, none⟩), r.ptr] w (JoinOK w l b g r) := by
  induction l with
  | nil => intro r b g w _ _ _ _ _ hh; simp [T.ht] at hh
  | node lb ll lg lr _ ih =>
    intro r b g w hl hr hb hn hsz hh
    have HL := hidden hl
    have HR := hidden hr
    have HB := hidden hb
    have HN := hidden hn
    have HS := hidden hsz
    have HH := hidden hh
    have hlb := lt_of_cells hl.1
    obtain ⟨c0, c1⟩ := row_cells hl.1
    have hn1 : (lr.blocks ++ b :: r.blocks).Nodup := by
      rw [T.blocks_node, List.append_assoc, List.nodup_append] at hn
      have := hn.2.1
      simp only [List.cons_append, List.nodup_cons] at this
      exact this.2
    have HN1 := hidden hn1
    have hlbn : lb ∉ lr.blocks ++ b :: r.blocks := by
      rw [T.blocks_node, List.append_assoc, List.nodup_append] at hn
      have := hn.2.1
      simp only [List.cons_append, List.nodup_cons] at this
      exact this.1
    have hbb : b ∉ lr.blocks ∧ b ∉ r.blocks := by
      rw [List.nodup_append] at hn1
      exact ⟨fun e => hn1.2.2 b e b (by simp) rfl, (List.nodup_cons.1 hn1.2.1).1⟩
    have hz1 := ll.ht_sz
    have hz2 := lr.ht_sz
    have hz3 := r.ht_sz
    have hsz' : ll.sz + 1 + lr.sz + r.sz ≤ 50000 := hsz
    have hh' : r.ht + 1 < 1 + max ll.ht lr.ht := hh
    have A1 := hidden (height_any lr w hl.2.2)
    have A2 := hidden (height_any r w hr)
    have A3 := hidden (height_any ll)
    show Calls Try.prog 40 #[.pointer (some ⟨lb, 0, none⟩), .pointer (some ⟨b, 0, none⟩), r.ptr] w _
    clear hl hr hb hn hsz hh hn1
    go_enter Try.func40, Try.ntmps40
    by_cases hA : lr.ht ≤ r.ht + 1
    · have L1 : Hid (Calls Try.prog 42 #[lr.ptr, .pointer (some ⟨b, 0, none⟩), r.ptr] w fun e w' => e = .returned (.pointer (some ⟨b, 0, none⟩)) ∧ (T.node b lr g r).Rep w' ∧ Tw [b] w w') :=
        link_any lr r b g w HL.out.2.2 HR.out HB.out hbb.1 hbb.2 (by omega)
      go_upto_region 3 with (first
        | (go_at_call_of 15 (T.ptr lr); (with_reducible refine A1.out.mono ?_); rintro _ w ⟨rfl, rfl⟩)
        | (go_at_call_of 15 (T.ptr r); (with_reducible refine A2.out.mono ?_); rintro _ w ⟨rfl, rfl⟩)
        | (go_at_call 42; (with_reducible refine L1.out.mono ?_); rintro _ w1 ⟨rfl, hr1, ht1⟩; have HR1 := hidden hr1; have HT1 := hidden ht1; clear hr1 ht1))
      have hw1 : w1.heap[lb]? = some (.cells (row ll lg lr) 54) := (HT1.out.2.1 lb hlb (by simp; rintro rfl; exact hlbn (by simp))).trans HL.out.1
      have hlb1 := lt_of_cells hw1
      have hb1 := lt_of_cells HR1.out.1
      obtain ⟨d0, d1⟩ := row_cells hw1
      have d2 := ht_cell HR1.out.1
      have hT : Tw (lr.blocks ++ b :: r.blocks) w w1 := HT1.out.mono (by simp)
      have HT := hidden hT
      obtain ⟨N, hN⟩ : ∃ N, 1 + max lr.ht r.ht = N := ⟨_, rfl⟩
      rw [hN] at d2
      have hllb : ∀ k ∈ ll.blocks, k ∉ lr.blocks ++ b :: r.blocks := fun k hk e => by
        have := HN.out
        rw [T.blocks_node, List.append_assoc, List.nodup_append] at this
        exact this.2.2 k hk k (by simpa using Or.inr e) rfl
      have hll : ll.Rep w1 := HL.out.2.1.tw hT hllb
      have HLL := hidden hll
      clear hw1 hT hll c0 c1
      refine wp_region_ext (by kernel_rfl) (by kernel_rfl) ?_
      repeat (go_big_quiet_step ((go_at_call 15; first | exact Calls_ext (height_ext ll w1 HLL.out _) | exact Calls_ext2 (height_ext ll w1 HLL.out _))))
      rintro w2 ⟨x2, rfl⟩
      have hR2 : (T.node b lr g r).Rep (ext w1 x2) := HR1.out.tw (Tw.of_ext w1 x2) (by simp)
      have HR2 := hidden hR2
      have HT2 := hidden (HT.out.ext x2)
      clear hR2
      by_cases hB : N ≤ ll.ht + 1
      · have L2 : Hid (Calls Try.prog 42 #[ll.ptr, .pointer (some ⟨lb, 0, none⟩), .pointer (some ⟨b, 0, none⟩)] (ext w1 x2) fun e w' => e = .returned (.pointer (some ⟨lb, 0, none⟩)) ∧ (T.node lb ll lg (T.node b lr g r)).Rep w' ∧ Tw [lb] (ext w1 x2) w') :=
          glueR (t' := T.node b lr g r) HL.out HN.out rfl HT2.out HR2.out HS.out
        go_wp2_with (go_at_call 42; (with_reducible refine L2.out.mono ?_); rintro _ w3 ⟨rfl, hr3, ht3⟩; have HR3 := hidden hr3; have HT3 := hidden ht3; clear hr3 ht3)
        go_ret
        exact ⟨T.node lb ll lg (T.node b lr g r), rfl, by simp [T.seq], HR3.out, (HT2.out.mono (by simp [T.blocks_node]; intro k hk; simp [hk])).trans (HT3.out.mono (by simp [T.blocks_node]))⟩
      · cases lr with
        | nil => simp [T.ht] at hN hh'; omega
        | node yb yl yg yr =>
          have hlbx : (ext w1 x2).heap[lb]? = some (.cells (row ll lg (T.node yb yl yg yr)) 54) := (HT2.out.2.1 lb hlb hlbn).trans HL.out.1
          have HX := hidden hlbx
          obtain ⟨z0, _⟩ := row_cells hlbx
          have R1 : Hid (Calls Try.prog 44 #[.pointer (some ⟨b, 0, none⟩)] (ext w1 x2).drew fun e w' => e = .returned (.pointer (some ⟨yb, 0, none⟩)) ∧ (T.node yb yl yg (.node b yr g r)).Rep w' ∧ Tw [b, yb] (ext w1 x2).drew w') :=
            rotateRight_any b yb yl yr r g yg (ext w1 x2).drew HR2.out.drew (by rw [T.blocks_node]; exact HN1.out) (by simp only [T.sz] at hsz'; omega)
          have TT : Hid (∀ w3, Tw [b, yb] (ext w1 x2).drew w3 → Tw ((T.node yb yl yg yr).blocks ++ b :: r.blocks) w w3) := fun w3 h3 => HT2.out.drew.trans (h3.mono (by simp [T.blocks_node]))
          have L2 : Hid (∀ w3, Tw [b, yb] (ext w1 x2).drew w3 → (T.node yb yl yg (.node b yr g r)).Rep w3 → Calls Try.prog 42 #[ll.ptr, .pointer (some ⟨lb, 0, none⟩), .pointer (some ⟨yb, 0, none⟩)] w3 fun e w' => e = .returned (.pointer (some ⟨lb, 0, none⟩)) ∧ (T.node lb ll lg (T.node yb yl yg (.node b yr g r))).Rep w' ∧ Tw [lb] w3 w') := fun w3 h3 h4 =>
            glueR (t' := T.node yb yl yg (.node b yr g r)) (g := g) HL.out HN.out (by simp [T.seq]) (TT.out w3 h3) h4 HS.out
          have R2 : Hid (∀ w4, (T.node lb ll lg (T.node yb yl yg (.node b yr g r))).Rep w4 → Calls Try.prog 43 #[.pointer (some ⟨lb, 0, none⟩)] w4 fun e w' => e = .returned (T.node yb (.node lb ll lg yl) yg (.node b yr g r)).ptr ∧ (T.node yb (.node lb ll lg yl) yg (.node b yr g r)).Rep w' ∧ Tw [lb, yb] w4 w') := fun w4 h4 =>
            rotateLeft_any lb yb ll yl (.node b yr g r) lg yg w4 h4 (by have := HN.out; simpa [T.blocks_node] using this) (by simp only [T.sz] at hsz' ⊢; omega)
          clear hlbx d0 d1 d2
          go_upto_region 5 with (fail)
          go_region_with (first
            | (go_at_call 44; (with_reducible refine R1.out.mono ?_); rintro _ w3 ⟨rfl, hr3, ht3⟩; have hz := (ht3.2.1 lb (lt_of_cells HX.out) (by intro e; apply hlbn; simp [T.blocks_node] at e ⊢; rcases e with rfl | rfl <;> simp)).trans HX.out; obtain ⟨z2, _⟩ := row_cells hz; clear hz)
            | (go_at_call 42; (with_reducible refine (L2.out w3 ht3 hr3).mono ?_); rintro _ w4 ⟨rfl, hr4, ht4⟩)
            | (go_at_call 43; (with_reducible refine (R2.out w4 hr4).mono ?_); rintro _ w5 ⟨rfl, hr5, ht5⟩))
          all_goals
            go_wp2
            go_ret
            refine ⟨_, rfl, by simp [T.seq], hr5, ?_⟩
            exact (((TT.out w3 ht3).mono (by simp [T.blocks_node]; intro k hk; simp [hk])).trans (ht4.mono (by simp [T.blocks_node]))).trans (ht5.mono (by simp [T.blocks_node]))
    · have J : Hid (Calls Try.prog 40 #[lr.ptr, .pointer (some ⟨b, 0, none⟩), r.ptr] w.drew (JoinOK w.drew lr b g r)) :=
        ih r b g w.drew HL.out.2.2.drew HR.out.drew (Raw.keep HB.out rfl) HN1.out (by omega) (by omega)
      have TT : Hid (∀ w3, Tw (lr.blocks ++ b :: r.blocks) w.drew w3 → Tw (lr.blocks ++ b :: r.blocks) w w3) := fun w3 h3 => ((Tw.refl w).drew.mono (by simp)).trans h3
      have L2 : Hid (∀ (t' : T) w3, Tw (lr.blocks ++ b :: r.blocks) w.drew w3 → t'.seq = lr.seq ++ (b, g) :: r.seq → t'.Rep w3 → Calls Try.prog 42 #[ll.ptr, .pointer (some ⟨lb, 0, none⟩), t'.ptr] w3 fun e w' => e = .returned (.pointer (some ⟨lb, 0, none⟩)) ∧ (T.node lb ll lg t').Rep w' ∧ Tw [lb] w3 w') := fun t' w3 h3 hs h4 =>
        glueR HL.out HN.out hs (TT.out w3 h3) h4 HS.out
      clear ih
      go_upto_region 6 with (first
        | (go_at_call_of 15 (T.ptr lr); (with_reducible refine A1.out.mono ?_); rintro _ w ⟨rfl, rfl⟩)
        | (go_at_call_of 15 (T.ptr r); (with_reducible refine A2.out.mono ?_); rintro _ w ⟨rfl, rfl⟩))
      go_region_with (first
        | (go_at_call 40; (with_reducible refine J.out.mono ?_); rintro _ w3 ⟨t', rfl, hs3, hr3, ht3⟩; have hz := (ht3.2.1 lb hlb hlbn).trans HL.out.1; obtain ⟨z2, _⟩ := row_cells hz; clear hz)
        | (go_at_call 42; (with_reducible refine (L2.out t' w3 ht3 hs3 hr3).mono ?_); rintro _ w4 ⟨rfl, hr4, ht4⟩))
      all_goals
        go_simp
        have hlb4 := lt_of_cells hr4.1
        obtain ⟨y0, y1⟩ := row_cells hr4.1
        have H1 := hidden (height_ext ll w4 hr4.2.1)
        have H2 := hidden (height_ext t' w4 hr4.2.2)
        have HR4 := hidden hr4
        have HT4 := hidden (((TT.out w3 ht3).mono (S' := (T.node lb ll lg lr).blocks ++ b :: r.blocks) (by simp [T.blocks_node]; intro k hk; simp [hk])).trans (ht4.mono (by simp [T.blocks_node])))
        have hts := sz_of hs3
        have htz := t'.ht_sz
        have hs4 : (T.node lb ll lg t').seq = (T.node lb ll lg lr).seq ++ (b, g) :: r.seq := by simp [T.seq, hs3]
        have HS4 := hidden hs4
        have HS3 := hidden hs3
        clear hr4 ht4 hr3 ht3 hs3 hs4 z2
        go_upto_region 7 with (fail)
        refine wp_region_ext (by kernel_rfl) (by kernel_rfl) ?_
        repeat (go_big_quiet_step ((first | (go_at_call_of 15 (T.ptr ll); first | exact Calls_ext (H1.out _) | exact Calls_ext2 (H1.out _)) | (go_at_call_of 15 (T.ptr t'); first | exact Calls_ext (H2.out _) | exact Calls_ext2 (H2.out _)))))
        rintro w5 ⟨x5, rfl⟩
        have hR5 : (T.node lb ll lg t').Rep (ext w4 x5) := HR4.out.tw (Tw.of_ext w4 x5) (by simp)
        have HR5 := hidden hR5
        have HT5 := hidden (HT4.out.ext x5)
        clear hR5
        by_cases hC : t'.ht ≤ ll.ht + 1
        · go_wp2_with (fail)
          go_ret
          exact ⟨T.node lb ll lg t', rfl, HS4.out, HR5.out, HT5.out⟩
        · obtain ⟨yb, yl, yg, yr, rfl⟩ := T.nonnil HS3.out
          have R2 : Hid (Calls Try.prog 43 #[.pointer (some ⟨lb, 0, none⟩)] (ext w4 x5) fun e w' => e = .returned (T.node yb (.node lb ll lg yl) yg yr).ptr ∧ (T.node yb (.node lb ll lg yl) yg yr).Rep w' ∧ Tw [lb, yb] (ext w4 x5) w') :=
            rotateLeft_any lb yb ll yl yr lg yg (ext w4 x5) HR5.out (by rw [blocks_of HS4.out]; have := HN.out; simpa [T.blocks] using this) (by simp only [T.sz] at hts ⊢; omega)
          have hyb : yb ∈ (T.node lb ll lg lr).blocks ++ b :: r.blocks := by
            have h1 := blocks_of HS3.out
            have h2 : yb ∈ (T.node yb yl yg yr).blocks := by simp [T.blocks_node]
            rw [h1] at h2
            simp [T.blocks_node]
            simp [T.blocks] at h2 ⊢
            rcases h2 with h2 | h2 | h2
            · exact .inr (.inr (.inl h2))
            · exact .inr (.inr (.inr (.inl h2)))
            · exact .inr (.inr (.inr (.inr h2)))
          go_wp2_with (go_at_call 43; (with_reducible refine R2.out.mono ?_); rintro _ w6 ⟨rfl, hr6, ht6⟩)
          go_ret
          refine ⟨_, rfl, ?_, hr6, HT5.out.trans (ht6.mono (by simp [T.blocks_node]; simpa [T.blocks_node] using hyb))⟩
          rw [← HS4.out]; simp [T.seq]
end Go.Proofs.Qxb6500688a
