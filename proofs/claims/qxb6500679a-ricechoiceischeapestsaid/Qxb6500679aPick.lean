import Derived.Test.Qxb6500679aNorm
namespace Go.Proofs.Qxb6500679a
open Go.RowKit Go.BigFrame
set_option linter.unusedSimpArgs false
attribute [local go_sem] ext_cell_if ext_frozen_if alloc_cell_if alloc_frozen_if ext_size ext_ext
/-- The stages' row can be read. -/
def St (A H : Nat) (w : World) (V : Value) (k : Nat) : Prop :=
  ∃ a c, V = .slice a k c ∧ (0 < k → ∃ g, a = some ⟨g, 0, none⟩ ∧ A ≤ g ∧ g < H ∧ ∀ i, i < k → ∃ (ca : Option Addr) (cn cc : Nat) (en : Int), w.cell? ⟨g, i * 2, none⟩ = some (.slice ca cn cc) ∧ w.cell? ⟨g, i * 2 + 1, none⟩ = some (.int .i64 en))
set_option maxHeartbeats 400000 in
theorem pickOrder_any (V : Value) (k n : Nat) (up : Int) (w : World) (hst : St 0 w.heap.size w V k) (hk : 0 < k) (hk2 : k ≤ 40) (hn : n ≤ 4999) (hup : -64 ≤ up ∧ up ≤ 64) :
    Calls Try.prog 27 #[V, .int .i64 n, .int .i64 up] w fun e w' => ∃ b : Nat, b < k ∧ e = .returned (.int .i64 b) ∧ ∃ x, w' = ext w x := by
  obtain ⟨a, c, rfl, hr⟩ := hst
  obtain ⟨g, rfl, _, hg, hc⟩ := hr hk
  have HC := hidden hc
  clear hr hc
  go_enter Try.func27, Try.ntmps27
  go_wp2
  go_loopw [7, 8, 17] (fun s7 s8 i wi => ∃ (j b : Nat) (y : Int), j ≤ k ∧ b < k ∧ s7 = .int .i64 b ∧ s8 = .int .i64 y ∧ i = .int .i64 j ∧ Gr w.heap.size w wi) (fun _ _ i _ => k - (intOf i).toNat)
  case atStart => exact ⟨0, 0, 0, by omega, hk, rfl, rfl, rfl, Gr.refl w⟩
  case round =>
    obtain ⟨j, b, y, hj, hb, rfl, rfl, rfl, hgr⟩ := hrel
    by_cases hjk : j < k
    · obtain ⟨ca, cn, cc, en, c1, c2⟩ := HC.out j hjk
      have c1' : wr.cell? ⟨g, j * 2, none⟩ = some (.slice ca cn cc) := by rw [hgr.1.cell (p := ⟨g, j * 2, none⟩) hg]; exact c1
      have c2' : wr.cell? ⟨g, j * 2 + 1, none⟩ = some (.int .i64 en) := by rw [hgr.1.cell (p := ⟨g, j * 2 + 1, none⟩) hg]; exact c2
      clear c1 c2
      go_wp2_with (go_at_call 33; refine (log2q8_any _ _).mono ?_; rintro e w' ⟨z, rfl, hz, rfl⟩)
      all_goals first
        | exact ⟨⟨j + 1, b, _, by omega, hb, rfl, rfl, by go_num, hgr.alloc _⟩, by simp [intOf]; omega⟩
        | exact ⟨⟨j + 1, j, _, by omega, hjk, rfl, rfl, by go_num, hgr.alloc _⟩, by simp [intOf]; omega⟩
        | exact ⟨⟨1, 0, _, by omega, hk, rfl, rfl, rfl, hgr.alloc _⟩, by simp [intOf]; omega⟩
    · go_wp2
      go_ret
      exact ⟨b, hb, rfl, hgr.of⟩
set_option maxHeartbeats 400000 in
theorem quantise_any (V : Value) (n : Nat) (w : World) (hV : Ry 0 w.heap.size w I64 V n) (hn : n ≤ 40) :
    Calls Try.prog 26 #[V] w fun e w' => ∃ (sh : Int) (U : Value), 0 ≤ sh ∧ e = .returned (.agg #[.int .u64 sh, U]) ∧ Ry w.heap.size w'.heap.size w' I16 U n ∧ ∃ x, w' = ext w x := by
  obtain ⟨a, c, rfl, hac, hr⟩ := hV
  have HR := hidden hr
  clear hr
  obtain ⟨i0, hi, hz0, hz1, hz2⟩ := info_parts Try.info50
  go_enter Try.func26, Try.ntmps26
  go_wp2
  go_loop [3, 13] (fun s i => ∃ (j : Nat) (y : Int), j ≤ n ∧ (-9223372036854775808 ≤ y ∧ y ≤ 9223372036854775807) ∧ s = .int .i64 y ∧ i = .int .i64 j) (fun _ i => n - (intOf i).toNat)
  case atStart => exact ⟨0, 0, by omega, by omega, rfl, rfl⟩
  case round =>
    obtain ⟨j, y, hj, hy, rfl, rfl⟩ := hrel
    by_cases hjn : j < n
    · obtain ⟨g, rfl, _, hg, hc⟩ := HR.out (by omega)
      obtain ⟨u, hu, z, rfl, hz1', hz2'⟩ := hc j hjn
      clear hc
      go_wp2
      have hw := wrap64_bd (-z)
      generalize wrap64 (-z) = Z at *
      refine ⟨⟨j + 1, _, by omega, ?_, rfl, by go_num⟩, by simp [intOf]; omega⟩
      split <;> split <;> omega
    · go_wp2
      go_loop [6] (fun s => ∃ k : Nat, k ≤ 15 ∧ s = .int .u64 k) (fun s => (intOf s).toNat)
      case atStart => exact ⟨15, by omega, rfl⟩
      case round =>
        obtain ⟨k, hk, rfl⟩ := hrel
        obtain ⟨q, hq⟩ : ∃ q : Nat, (24 : Int) - (k : Int) = (q : Int) := ⟨24 - k, by omega⟩
        have hq9 : 9 ≤ q ∧ q ≤ 24 := by omega
        have hq8 : (q : Int) - 1 = ((q - 1 : Nat) : Int) := by omega
        go_wp2_with (at_make; refine wpList_make_full _ rfl _ _ 27 rfl w.heap.size 50 i0 (.int .i16 0) 1 Try.underlying27 hi hz0 hz1 .i64 .i64 (n : Int) (n : Int) n rfl rfl rfl rfl (by rw [hz2]; omega) (by unfold maxLen; omega) (by simp) ?_)
        · exact ⟨⟨k - 1, by omega, by go_num⟩, by simp [intOf]; omega⟩
        all_goals
          intro w1 hown hgrow
          go_wp2
          have hG1 : Gr w.heap.size w w1 := ((Gr.refl w).alloc _).grown hgrow (by simp)
          have ht2 : w1.heap[w.heap.size]? = some (.cells #[.int .u64 0, .slice none 0 0] 37) := by rw [hgrow.block _ (by simp) (by simp)]; exact heap_new _ _
          have hsz1 : w.heap.size + 1 < w1.heap.size := (hown.lt _ rfl).2
          obtain ⟨T8, hT8⟩ : ∃ T8, w1.heap.size = T8 := ⟨_, rfl⟩
          obtain ⟨R, hR⟩ : ∃ R, w.heap.size + 1 = R := ⟨_, rfl⟩
          rw [hR] at hown hsz1 ⊢
          rw [hT8] at hsz1 ⊢
          refine wp_gen (fun W => Gr w.heap.size w W ∧ W.heap[w.heap.size]? = some (.cells #[.int .u64 0, .slice none 0 0] 37) ∧ W.heap[T8]? = some (.cells #[.int .u64 k, .slice (some ⟨R, 0, none⟩) n n] 37) ∧ ∃ xs, W.ownsRow w.heap.size 50 1 (.slice (some ⟨R, 0, none⟩) n n) n xs ∧ ∀ u ∈ xs, I16 u) ⟨hG1.alloc _, blk_alloc ht2, by rw [← hT8]; exact heap_new _ _, _, hown.alloc _, made_all _ I16 ⟨0, rfl, by decide, by decide⟩ n⟩ ?_
          clear hown hgrow hG1 ht2 hT8
          clear w1
          rintro wa ⟨hgr, ht2, ht8, xs, hown, hxs⟩
          go_loopw [43] (fun i wi => ∃ (j : Nat) (xs : List Value), j ≤ n ∧ i = .int .i64 j ∧ Gr w.heap.size w wi ∧ wi.heap[w.heap.size]? = some (.cells #[.int .u64 0, .slice none 0 0] 37) ∧ wi.heap[T8]? = some (.cells #[.int .u64 k, .slice (some ⟨R, 0, none⟩) n n] 37) ∧ wi.ownsRow w.heap.size 50 1 (.slice (some ⟨R, 0, none⟩) n n) n xs ∧ ∀ u ∈ xs, I16 u) (fun i _ => n - (intOf i).toNat)
          case atStart => exact ⟨0, xs, by omega, rfl, hgr, ht2, ht8, hown, hxs⟩
          case round =>
            clear hgr ht2 ht8 hown hxs
            obtain ⟨i, ys, hin, rfl, hgr, ht2, ht8, hown, hxs⟩ := hrel
            have d0 := cell_of_cells ht8 0
            have d1 := cell_of_cells ht8 1
            have b0 := cell_of_cells ht2 0
            have b1 := cell_of_cells ht2 1
            have bm := mark_of_cells ht2
            simp at d0 d1 b0 b1
            by_cases hi' : i < n
            · obtain ⟨g, rfl, _, hg, hc⟩ := HR.out (by omega)
              obtain ⟨u, hu, z, rfl, hz1', hz2'⟩ := hc i hi'
              have hu' : wr.cell? ⟨g, i, none⟩ = some (.int .i64 z) := by rw [hgr.1.cell (p := ⟨g, i, none⟩) hg]; exact hu
              obtain ⟨old, hold⟩ : ∃ old, wr.cell? ⟨R, i, none⟩ = some old := by
                rw [hown.cellAt i (by omega)]
                exact ⟨ys[i]'(by have := hown.1; omega), List.getElem?_eq_getElem _⟩
              have hfr := hown.frozenAt i
              have HO := hidden hown
              have HX := hidden hxs
              clear hu hc hown hxs
              go_wp2
              exact ⟨⟨i + 1, _, by omega, by go_num, hgr.setCell (show w.heap.size ≤ R by omega) _, by rw [blk_far (by omega)]; exact ht2, by rw [blk_far (by omega)]; exact ht8, (HO.out.stored i _).1, set_all HX.out ⟨_, rfl, i16_bd _⟩ i⟩, by simp [intOf]; omega⟩
            · have HO := hidden hown
              have HX := hidden hxs
              clear hown hxs
              go_wp2
              have hne : ∀ v : Nat, (Value.slice (some ⟨R, 0, none⟩) n n).ownBlock = none ∨ (Value.slice (some ⟨R, 0, none⟩) n n).ownBlock ≠ some w.heap.size := fun _ => .inr (by simp [Value.ownBlock]; omega)
              have ho := (HO.out.kept (grown_set _ ⟨w.heap.size, 0, none⟩ (.int .u64 k)) (hne 0)).kept (grown_set _ ⟨w.heap.size, 1, none⟩ (.slice (some ⟨R, 0, none⟩) n n)) (hne 0)
              exact bodyPost_ret (v := .agg #[.int .u64 k, .slice (some ⟨R, 0, none⟩) n n]) (by simp [results, Try.results26, go_sem, b0, b1, ↓IntWalk.iteOmega]) rfl ⟨_, _, by omega, rfl, Ry.own ho HX.out, Gr.of ((hgr.setCell (Nat.le_refl _) _).setCell (Nat.le_refl _) _)⟩
end Go.Proofs.Qxb6500679a
