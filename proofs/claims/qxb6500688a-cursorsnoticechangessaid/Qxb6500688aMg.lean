import Derived.Test.Qxb6500688aFr
namespace Go.Proofs.Qxb6500688a
open Go.RowKit Go.BigFrame
set_option linter.unusedSimpArgs false
attribute [local go_sem] ext_cell_if ext_frozen_if alloc_cell_if alloc_frozen_if ext_size ext_ext
theorem Rw.cap {w : World} {g n c : Nat} (h : Rw w g n c) : n ≤ c := by obtain ⟨_, _, _, h, _⟩ := h; exact h
theorem Rw.drew {w : World} {g n c : Nat} (h : Rw w g n c) : Rw w.drew g n c := h
theorem Rw.set4 {w : World} {g n c : Nat} (h : Rw w g n c) (o : Nat) {a b d e : Int} (ha : -9223372036854775808 ≤ a ∧ a ≤ 9223372036854775807) (hb : -9223372036854775808 ≤ b ∧ b ≤ 9223372036854775807) (hd : -9223372036854775808 ≤ d ∧ d ≤ 9223372036854775807) (he : -9223372036854775808 ≤ e ∧ e ≤ 9223372036854775807) :
    Rw (w.setCells g o [.int .i64 a, .int .i64 b, .int .i64 d, .int .i64 e]) g n c := (((h.set _ a ha).set _ b hb).set _ d hd).set _ e he
theorem Tw.set4 {S : List Nat} {w w1 : World} (h : Tw S w w1) {g : Nat} (hb : g ∈ S) (o : Nat) (a b d e : Value) : Tw S w (w1.setCells g o [a, b, d, e]) := (((h.set hb _ a).set hb _ b).set hb _ d).set hb _ e
theorem hk_new (W : World) (s : Nat) (hs : s = W.heap.size) {a b d e : Int} (ha : -9223372036854775808 ≤ a ∧ a ≤ 9223372036854775807) (hb : -9223372036854775808 ≤ b ∧ b ≤ 9223372036854775807) (hd : -9223372036854775808 ≤ d ∧ d ≤ 9223372036854775807) (he : -9223372036854775808 ≤ e ∧ e ≤ 9223372036854775807) :
    Hk (W.alloc (.cells #[.int .i64 a, .int .i64 b, .int .i64 d, .int .i64 e] 41)) (.slice (some ⟨s, 0, none⟩) 1 1) 1 := by
  subst hs
  exact hk_one (heap_new _ _) ha hb hd he
set_option maxRecDepth 100000 in
set_option maxHeartbeats 1000000 in
theorem merge_any (g n c : Nat) (w : World) (hr : Rw w g n c) (hn : n ≤ 70000) (hc : c ≤ 1000000) :
    Calls Try.prog 34 #[.slice (some ⟨g, 0, none⟩) n c] w fun e w' => ∃ m, e = .returned (.slice (some ⟨g, 0, none⟩) m c) ∧ m ≤ n ∧ Rw w' g n c ∧ Tw [g] w w' := by
  have HR := hidden hr
  have hnc := hr.cap
  clear hr
  obtain ⟨i4, hi4, ha4, hb4, hc4⟩ := info_parts Try.inf41
  go_enter Try.func34, Try.ntmps34
  go_wp2
  go_loopw [3, 11] (fun s3 s11 wi => ∃ k m : Nat, s11 = .int .i64 k ∧ k ≤ n ∧ m ≤ k ∧ s3 = .slice (some ⟨g, 0, none⟩) m c ∧ Rw wi g n c ∧ Tw [g] w wi) (fun _ s11 _ => n - (intOf s11).toNat)
  case atStart => exact ⟨0, 0, rfl, by omega, by omega, rfl, HR.out, (Tw.refl w).mono (by simp)⟩
  case round =>
    clear HR
    obtain ⟨k, m, rfl, hk, hmk, rfl, hrw, htw⟩ := hrel
    have HR := hidden hrw
    have HT := hidden htw
    by_cases hkn : k < n
    · obtain ⟨z0, c0, b0⟩ := hrw.at (k * 4) (by omega)
      obtain ⟨z1, c1, b1⟩ := hrw.at (k * 4 + 1) (by omega)
      obtain ⟨z2, c2, b2⟩ := hrw.at (k * 4 + 2) (by omega)
      obtain ⟨z3, c3, b3⟩ := hrw.at (k * 4 + 3) (by omega)
      have hgw := hrw.lt
      obtain ⟨H, hH⟩ : ∃ H, wr.heap.size = H := ⟨_, rfl⟩
      clear hrw htw
      have APP : Hid (∀ w1 : World, Rw w1 g n c → Tw [g] w w1 → ∃ k' m' : Nat, (Value.int .i64 ((k : Int) + 1)) = .int .i64 k' ∧ k' ≤ n ∧ m' ≤ k' ∧ Value.slice (some ⟨g, 0, none⟩) (m + 1) c = .slice (some ⟨g, 0, none⟩) m' c ∧ Rw w1 g n c ∧ Tw [g] w w1) := fun w1 h1 h2 => ⟨k + 1, m + 1, by simp, by omega, by omega, rfl, h1, h2⟩
      go_upto_region 6 with (fail)
      refine wp_gen (fun W => Rw W g n c ∧ Tw [g] w W ∧ W.heap[H]? = some (.cells #[.int .i64 z0, .int .i64 z1, .int .i64 z2, .int .i64 z3] 41)) ⟨HR.out.alloc _, HT.out.alloc _, by rw [← hH]; exact heap_new _ _⟩ ?_
      clear HR HT c0 c1 c2 c3
      have hgH : ¬ g = H := by omega
      have hHg : ¬ H = g := by omega
      clear hgw hH
      clear wr
      rintro wr ⟨hrw, htw, hv⟩
      have HR := hidden hrw
      have HT := hidden htw
      have HV := hidden hv
      have d0 := cell_of_cells hv 0
      have d1 := cell_of_cells hv 1
      have d2 := cell_of_cells hv 2
      have d3 := cell_of_cells hv 3
      have hHw := lt_of_cells hv
      simp at d0 d1 d2 d3
      have B0 := hidden b0
      have B1 := hidden b1
      have B2 := hidden b2
      have B3 := hidden b3
      clear b0 b1 b2 b3 hv htw
      rcases Nat.eq_zero_or_pos m with hm0 | hm0
      · subst hm0
        clear hrw
        refine wp_region_ext (by kernel_rfl) (by kernel_rfl) ?_
        repeat (go_big_quiet_step (fail))
        rintro w2 ⟨x, rfl⟩
        go_wp2_with (at_builtin; refine wpList_append_hk rfl (.tmp 48) (.tmp 50) 27 rfl i4 _ Try.underlying27 hi4 ha4 hb4 hc4 rfl g (0) 1 c _ (by simp [Act.eval]) (by simp [Act.eval]; rfl) (hk_new _ _ (by simp [ext_size]) B0.out B1.out B2.out B3.out) (((HR.out.ext x).alloc _).prefix _ (by omega)) (by omega) hc ?_; intro w3 _ hover htw3)
        exact ⟨APP.out w3 (hover n ((HR.out.ext x).alloc _)) (((HT.out.ext x).alloc _).trans htw3), by simp [intOf]; omega⟩
      · obtain ⟨q, rfl⟩ : ∃ q, m = q + 1 := ⟨m - 1, by omega⟩
        obtain ⟨y0, e0, q0⟩ := hrw.at (q * 4) (by omega)
        obtain ⟨y1, e1, q1⟩ := hrw.at (q * 4 + 1) (by omega)
        obtain ⟨y2, e2, q2⟩ := hrw.at (q * 4 + 2) (by omega)
        obtain ⟨y3, e3, q3⟩ := hrw.at (q * 4 + 3) (by omega)
        have gm := hrw.mark
        have hgw := hrw.lt
        have TO := hidden (touch_val y0 y1 y2 y3 z0 z1 z2 z3)
        clear hrw
        refine wp_region_ext (by kernel_rfl) (by kernel_rfl) ?_
        repeat (go_big_quiet_step ((go_at_call 39; first | exact Calls_ext (TO.out _) | exact Calls_ext2 (TO.out _))))
        rintro w2 ⟨x, rfl⟩
        generalize tv y0 y1 y2 y3 z0 z2 = B
        cases B with
        | false =>
          go_wp2_with (at_builtin; refine wpList_append_hk rfl (.tmp 48) (.tmp 50) 27 rfl i4 _ Try.underlying27 hi4 ha4 hb4 hc4 rfl g (q + 1) 1 c _ (by simp [Act.eval]) (by simp [Act.eval]; rfl) (hk_new _ _ (by simp [ext_size]) B0.out B1.out B2.out B3.out) (((HR.out.ext x).alloc _).prefix _ (by omega)) (by omega) hc ?_; intro w3 _ hover htw3)
          exact ⟨APP.out w3 (hover n ((HR.out.ext x).alloc _)) (((HT.out.ext x).alloc _).trans htw3), by simp [intOf]; omega⟩
        | true =>
          go_upto_region 7 with (fail)
          go_region
          go_upto_region 8 with (fail)
          refine wp_gen (fun W => Rw W g n c ∧ Tw [g] w W ∧ W.heap[H]? = some (.cells #[.int .i64 z0, .int .i64 z1, .int .i64 z2, .int .i64 z3] 41)) ⟨((HR.out.ext x).set _ _ (wrap64_bd _)).drew, ((HT.out.ext x).set (by simp) _ _).drew, (blk_far hHg _ _).trans (blk_ext HV.out)⟩ ?_
          clear HR HT HV d0 d1 d2 d3 e0 e1 e2 e3 gm hgw hHw
          rintro w4 ⟨hrw, htw, hv⟩
          obtain ⟨v3, e3, r3⟩ := hrw.at (q * 4 + 3) (by omega)
          have gm := hrw.mark
          have hgw := hrw.lt
          have hHw := lt_of_cells hv
          have d3 := cell_of_cells hv 3
          simp at d3
          have HR := hidden hrw
          have HT := hidden htw
          clear hrw htw hv
          go_region
          go_wp2_with (fail)
          exact ⟨⟨k + 1, q + 1, by go_num, by omega, by omega, rfl, (HR.out.set _ _ (wrap64_bd _)).drew, (HT.out.set (by simp) _ _).drew⟩, by simp [intOf]; omega⟩
    · go_wp2
      go_ret
      exact ⟨m, rfl, by omega, HR.out, HT.out⟩
end Go.Proofs.Qxb6500688a
