import Derived.Test.Qxb6500679aLev
import Derived.Deep.DeepCutAuto
namespace Go.Proofs.Qxb6500679a
open Go.RowKit Go.BigFrame
set_option linter.unusedSimpArgs false
attribute [local go_sem] ext_cell_if ext_frozen_if alloc_cell_if alloc_frozen_if ext_size ext_ext
theorem own_mono {A B e n size : Nat} {w : World} {v : Value} {xs : List Value} (h : w.ownsRow A e size v n xs) (hb : B ≤ A) : w.ownsRow B e size v n xs := by
  refine ⟨h.1, ?_⟩
  rcases h.2 with hn | ⟨g, cap, cur, rfl, hb', rest⟩
  · exact .inl hn
  · exact .inr ⟨g, cap, cur, rfl, by omega, rest⟩
set_option maxRecDepth 100000 in
set_option maxHeartbeats 1000000 in
theorem search_any (bl : Value) (n : Nat) (mo : Int) (w : World) (hbl : Ry 0 w.heap.size w I32 bl n) (hn : n ≤ 4999) (hmo : -9223372036854775808 ≤ mo ∧ mo ≤ 9223372036854775807) :
    Calls Try.prog 11 #[bl, .int .i64 mo] w fun e w' => ∃ (sh : Int) (U : Value) (m : Nat), 0 ≤ sh ∧ e = .returned (.agg #[.int .u64 sh, U]) ∧ m ≤ 40 ∧ Ry 0 w'.heap.size w' I16 U m ∧ ∃ x, w' = ext w x := by
  obtain ⟨ba, bc, rfl, hbc, hbr⟩ := hbl
  obtain ⟨n', hn'⟩ : ∃ n', min n 4096 = n' := ⟨_, rfl⟩
  have hm1 : min (n : Int) 4096 = (n' : Int) := by omega
  have hm2 : n' ≤ n := by omega
  have hm3 : n' ≤ 4096 := by omega
  have hB : Ry 0 w.heap.size w I32 (.slice ba n' bc) n' := ⟨ba, bc, rfl, by omega, fun h => by
    obtain ⟨g, g1, g2, g3, g4⟩ := hbr (by omega)
    exact ⟨g, g1, g2, g3, fun j hj => g4 j (by omega)⟩⟩
  have HB := hidden hB
  clear hn' hB hbr
  go_enter Try.func11, Try.ntmps11
  go_upto_region 2 with fail
  go_cut [1] (fun s1 wx => ∃ k : Int, s1 = .int .i64 k ∧ k ≤ 32 ∧ k ≤ (n' : Int) - 1 ∧ wx = w.alloc (.cells #[.int .u64 0, .slice none 0 0] 37))
  case first =>
    go_wp2
    all_goals
      go_meet
      case rel =>
        refine ⟨_, rfl, ?_, ?_, rfl⟩
        all_goals first | omega | (split at * <;> omega)
  case rest =>
    obtain ⟨k, rfl, hk1, hk2, rfl⟩ := hcut
    obtain ⟨W0, hW0⟩ : ∃ W0, W0 = w.alloc (.cells #[.int .u64 0, .slice none 0 0] 37) := ⟨_, rfl⟩
    rw [← hW0]
    have hG0 : Gr w.heap.size w W0 := by rw [hW0]; exact (Gr.refl w).alloc _
    have hv : W0.heap[w.heap.size]? = some (.cells #[.int .u64 0, .slice none 0 0] 37) := by rw [hW0]; exact heap_new _ _
    have hs0 : W0.heap.size = w.heap.size + 1 := by rw [hW0]; simp
    clear hW0
    have zero : ∀ W : World, Gr w.heap.size w W → W.heap[w.heap.size]? = some (.cells #[.int .u64 0, .slice none 0 0] 37) → Ry 0 ((W.setCell ⟨w.heap.size, 0, none⟩ (.int .u64 0)).setCell ⟨w.heap.size, 1, none⟩ (.slice none 0 0)).heap.size ((W.setCell ⟨w.heap.size, 0, none⟩ (.int .u64 0)).setCell ⟨w.heap.size, 1, none⟩ (.slice none 0 0)) I16 (.slice none 0 0) 0 := fun W _ _ => ⟨none, 0, rfl, by omega, by omega⟩
    have HZ := hidden zero
    have d0 := cell_of_cells hv 0
    have d1 := cell_of_cells hv 1
    have dm := mark_of_cells hv
    simp at d0 d1
    by_cases hk : k < 1
    · go_wp2
      exact bodyPost_ret (v := .agg #[.int .u64 0, .slice none 0 0]) (by simp [results, Try.results11, go_sem, d0, d1, ↓IntWalk.iteOmega]) rfl ⟨_, _, 0, by omega, rfl, by omega, HZ.out W0 hG0 hv, ((hG0.setCell (Nat.le_refl _) _).setCell (Nat.le_refl _) _).of⟩
    · obtain ⟨M, rfl⟩ : ∃ M : Nat, k = (M : Int) := ⟨k.toNat, by omega⟩
      have HT := hidden (taper_any (.slice ba n' bc) n' W0 ((HB.out.below hG0.1).mono (Nat.le_refl _) hG0.2) (by omega))
      go_upto_region 6 with (first
        | (go_at_call 23; refine HT.out.mono ?_; rintro e w1 ⟨V, rfl, hV, x, rfl⟩)
        | (go_at_call 22; refine (auto_any V n' M _ hV (by omega) (by omega)).mono ?_; rintro e w2 ⟨rfl, ⟨xs, hown, hxs⟩, y, rfl⟩))
      have hsx : (ext W0 x).heap.size = w.heap.size + 1 + (x 0).1.size := by rw [ext_size, hs0]
      obtain ⟨g, hg⟩ : ∃ g, w.heap.size + 1 + (x 0).1.size = g := ⟨_, rfl⟩
      rw [hsx, hg] at hown
      simp only [hsx, hg]
      have hgw : w.heap.size < g := by omega
      refine wp_gen (fun W => Gr w.heap.size w W ∧ W.heap[w.heap.size]? = some (.cells #[.int .u64 0, .slice none 0 0] 37) ∧ ∃ xs, W.ownsRow (w.heap.size + 1) 2 1 (.slice (some ⟨g, 0, none⟩) (M + 1) (M + 1)) (M + 1) xs ∧ ∀ u ∈ xs, I64 u) ⟨hG0.ext (cat x y), blk_ext hv, xs, own_mono (by rw [← ext_ext]; exact hown) (by omega), hxs⟩ ?_
      clear hown hxs hV HT hsx hg d0 d1 dm
      clear hv hG0 hs0
      rintro W ⟨hgr, hv, ys, hown, hys⟩
      obtain ⟨z0, hz0⟩ : ∃ z0 : Int, W.cell? ⟨g, 0, none⟩ = some (.int .i64 z0) := by
        have hl : 0 < ys.length := by have := hown.1; omega
        obtain ⟨z, hz, _⟩ := hys _ (List.getElem_mem hl)
        exact ⟨z, by rw [hown.cellAt 0 (by omega), List.getElem?_eq_getElem hl, hz]⟩
      have d0 := cell_of_cells hv 0
      have d1 := cell_of_cells hv 1
      have dm := mark_of_cells hv
      simp at d0 d1
      by_cases hz : z0 = 0
      · subst hz
        go_wp2
        exact bodyPost_ret (v := .agg #[.int .u64 0, .slice none 0 0]) (by simp [results, Try.results11, go_sem, d0, d1, ↓IntWalk.iteOmega]) rfl ⟨_, _, 0, by omega, rfl, by omega, HZ.out W hgr hv, ((hgr.setCell (Nat.le_refl _) _).setCell (Nat.le_refl _) _).of⟩
      have hWs : w.heap.size < W.heap.size := lt_of_cells hv
      have HN := hidden (normalise_any (w.heap.size + 1) g (M + 1) ys W hown hys (by omega) (by omega) (by omega))
      clear hown hys
      go_upto_region 9 with (go_at_call 24; refine HN.out.mono ?_; rintro e w1 ⟨up, rfl, hup, ⟨zs, hzs, hzi⟩, hg1⟩)
      have hgr1 : Gr w.heap.size w w1 := ⟨hgr.1.trans (hg1.1.mono (by omega)), by have := hg1.2; omega⟩
      have hv1 : w1.heap[w.heap.size]? = some (.cells #[.int .u64 0, .slice none 0 0] 37) := by rw [hg1.1.block _ (by omega)]; exact hv
      have HR : Ry 0 w1.heap.size w1 I64 (.slice (some ⟨g, 0, none⟩) (M + 1) (M + 1)) (M + 1) := (Ry.own hzs hzi).mono (Nat.zero_le _) (Nat.le_refl _)
      have HL := hidden (levinson_any _ (M + 1) w1 HR (by omega) (by omega))
      have hw1s : w.heap.size < w1.heap.size := lt_of_cells hv1
      clear HR hzs hzi hg1 hz0 d0 d1 dm
      clear hv hgr hWs HN
      go_upto_region 10 with (go_at_call 25; refine HL.out.mono ?_; rintro e w2 ⟨V3, k3, y3, rfl, hk40, hown3, hsg, x3, rfl⟩)
      have hgr2 : Gr w.heap.size w (ext w1 x3) := hgr1.ext x3
      have hv2 : (ext w1 x3).heap[w.heap.size]? = some (.cells #[.int .u64 0, .slice none 0 0] 37) := blk_ext hv1
      generalize ext w1 x3 = w2 at *
      have d0 := cell_of_cells hv2 0
      have d1 := cell_of_cells hv2 1
      have dm := mark_of_cells hv2
      simp at d0 d1
      have h2s : w.heap.size < w2.heap.size := lt_of_cells hv2
      rcases Nat.eq_zero_or_pos k3 with rfl | hk3
      · obtain ⟨qa, qn, qc, rfl⟩ := own_slice hown3
        obtain rfl : qn = 0 := by
          rcases hown3.2 with ⟨h1, _⟩ | ⟨_, _, _, h1, _⟩
          · simpa [lenOf] using congrArg lenOf h1
          · simpa [lenOf] using congrArg lenOf h1
        clear HL hown3 hsg
        go_wp2
        exact bodyPost_ret (v := .agg #[.int .u64 0, .slice none 0 0]) (by simp [results, Try.results11, go_sem, d0, d1, ↓IntWalk.iteOmega]) rfl ⟨_, _, 0, by omega, rfl, by omega, HZ.out w2 hgr2 hv2, ((hgr2.setCell (Nat.le_refl _) _).setCell (Nat.le_refl _) _).of⟩
      · obtain ⟨_, ⟨_, h0⟩ | ⟨g3, c3, cur3, rfl, hg3, hb3, _⟩⟩ := id hown3
        · omega
        have hst : St 0 w2.heap.size w2 (.slice (some ⟨g3, 0, none⟩) k3 c3) k3 := ⟨_, _, rfl, fun _ => ⟨g3, rfl, Nat.zero_le _, lt_of_cells hb3, fun i hi => by
          obtain ⟨gg, m, c, en, xs, h1, h2, _⟩ := hsg i hi
          exact ⟨_, m, c, en, by rw [hown3.cellAt (i * 2) (by omega)]; exact h1, by rw [hown3.cellAt (i * 2 + 1) (by omega)]; exact h2⟩⟩⟩
        have HP := hidden (pickOrder_any _ k3 n' up w2 hst hk3 hk40 (by omega) hup)
        have HS := hidden hsg
        have HO := hidden hown3
        clear hst hsg hown3 HL
        have hlt3 := lt_of_cells hb3
        go_wp2_with (first
          | (go_at_call 27; refine HP.out.mono ?_; rintro e w3 ⟨b, hb, rfl, x, rfl⟩; obtain ⟨gc, m, cc, en, xs, s1, s2, s3, s4, s5, s6⟩ := HS.out b hb; have hc2 := (HO.out.cellAt (b * 2) (by omega)).trans s1; have HRC := hidden (Ry.own s5 s6); clear s1 s2 s5 s6)
          | (go_at_call 26; refine (quantise_any _ m _ ((HRC.out.ext (Nat.le_refl _) x).mono (Nat.zero_le _) (by rw [ext_size]; omega)) s3).mono ?_; rintro e w4 ⟨sh, U, hsh, rfl, hU, y, rfl⟩; have HU := hidden hU; obtain ⟨ua, uc, rfl, _, hclear⟩ := hU; clear hclear))
        refine bodyPost_ret (v := .agg #[.int .u64 sh, .slice ua m uc]) (by simp [results, Try.results11, go_sem, d0, d1, h2s, ↓IntWalk.iteOmega]) rfl ⟨sh, _, m, hsh, rfl, s3, ?_, (((hgr2.ext (cat x y)).setCell (Nat.le_refl _) _).setCell (Nat.le_refl _) _).of⟩
        have hr : Ry (ext w2 x).heap.size (ext w2 (cat x y)).heap.size (ext w2 (cat x y)) I16 (.slice ua m uc) m := by rw [← ext_ext]; exact HU.out
        have hA : w.heap.size < (ext w2 x).heap.size := by rw [ext_size]; omega
        simp only [size_setCell]
        exact (hr.keep fun g h1 h2 => by rw [blk_far (by omega), blk_far (by omega)]).mono (Nat.zero_le _) (Nat.le_refl _)
end Go.Proofs.Qxb6500679a
