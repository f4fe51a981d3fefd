import Derived.Test.Qxb6500679aTaper
namespace Go.Proofs.Qxb6500679a
open Go.RowKit Go.BigFrame
set_option linter.unusedSimpArgs false
attribute [local go_sem] ext_cell_if ext_frozen_if alloc_cell_if alloc_frozen_if ext_size ext_ext
set_option maxHeartbeats 400000 in
theorem normalise_any (B g n : Nat) (xs : List Value) (w : World) (hown : w.ownsRow B 2 1 (.slice (some ⟨g, 0, none⟩) n n) n xs) (hxs : ∀ u ∈ xs, I64 u) (h0 : 0 < n) (hn : n ≤ 40) (hBw : B ≤ w.heap.size) :
    Calls Try.prog 24 #[.slice (some ⟨g, 0, none⟩) n n] w fun e w' => ∃ up : Int, e = .returned (.int .i64 up) ∧ (-64 ≤ up ∧ up ≤ 64) ∧ (∃ xs', w'.ownsRow B 2 1 (.slice (some ⟨g, 0, none⟩) n n) n xs' ∧ ∀ u ∈ xs', I64 u) ∧ Gr B w w' := by
  have hBg : B ≤ g := ownBlock_ge hown g rfl
  have cellAt : ∀ (W : World) (ys : List Value), W.ownsRow B 2 1 (.slice (some ⟨g, 0, none⟩) n n) n ys → (∀ u ∈ ys, I64 u) → ∀ j, j < n → ∃ y : Int, W.cell? ⟨g, j, none⟩ = some (.int .i64 y) ∧ (-9223372036854775808 ≤ y ∧ y ≤ 9223372036854775807) := fun W ys h1 h2 j hj => by
    have hjl : j < ys.length := by have := h1.1; omega
    obtain ⟨y, hy, y1, y2⟩ := h2 _ (List.getElem_mem hjl)
    exact ⟨y, by rw [h1.cellAt j (by omega), List.getElem?_eq_getElem hjl, hy], y1, y2⟩
  have CA := hidden cellAt
  obtain ⟨y0, hc0, hy0⟩ := cellAt w xs hown hxs 0 h0
  obtain ⟨X, hX⟩ : ∃ X : Int, IntKind.u64.wrap y0 = X := ⟨_, rfl⟩
  obtain ⟨hX0, hX1⟩ := u64_bd y0
  rw [hX] at hX0 hX1
  have HL := hidden (len_any X w hX0 hX1)
  have HO := hidden hown
  have HX := hidden hxs
  clear cellAt hown hxs
  go_enter Try.func24, Try.ntmps24
  go_wp2_with (go_at_call 32; refine HL.out.mono ?_; rintro e w' ⟨L, hL, rfl, rfl⟩)
  rename World => w0
  go_loopw [13] (fun i wi => ∃ (j : Nat) (xs : List Value), j ≤ n ∧ i = .int .i64 j ∧ Gr B w0 wi ∧ wi.ownsRow B 2 1 (.slice (some ⟨g, 0, none⟩) n n) n xs ∧ ∀ u ∈ xs, I64 u) (fun i _ => n - (intOf i).toNat)
  case atStart => exact ⟨0, xs, by omega, rfl, ⟨Below.refl _ _, hBw⟩, HO.out, HX.out⟩
  case round =>
    clear HO HX
    obtain ⟨j, ys, hj, rfl, hgr, hown, hxs⟩ := hrel
    have HO := hidden hown
    have HX := hidden hxs
    by_cases hjn : j < n
    · obtain ⟨y, hc, hy⟩ := CA.out wr ys hown hxs j hjn
      have hfr := hown.frozenAt j
      have HY := hidden hy
      clear hown hxs hc0
      by_cases hL26 : L ≤ 26
      · obtain ⟨q, hq⟩ : ∃ q : Nat, (26 : Int) - (L : Int) = (q : Int) := ⟨26 - L, by omega⟩
        have hq2 : q ≤ 26 := by omega
        go_wp2
        exact ⟨⟨j + 1, _, by omega, by go_num, hgr.setCell hBg _, (HO.out.stored j _).1, set_all HX.out ⟨_, rfl, wrap64_bd _⟩ j⟩, by simp [intOf]; omega⟩
      · obtain ⟨q, hq⟩ : ∃ q : Nat, -((26 : Int) - (L : Int)) = (q : Int) := ⟨L - 26, by omega⟩
        have hq3 : (L : Int) - 26 = (q : Int) := by omega
        have hq2 : q ≤ 64 := by omega
        go_wp2
        exact ⟨⟨j + 1, _, by omega, by go_num, hgr.setCell hBg _, (HO.out.stored j _).1, set_all HX.out ⟨_, rfl, ediv_bd y _ (Int.pow_pos (by decide)) HY.out⟩ j⟩, by simp [intOf]; omega⟩
    · go_wp2
      go_ret
      exact ⟨_, rfl, by omega, ⟨ys, hown, hxs⟩, hgr⟩
end Go.Proofs.Qxb6500679a
