import Derived.Test.Qxb6500679aCase
namespace Go.Proofs.Qxb6500679a
open Go.RowKit Go.BigFrame
set_option linter.unusedSimpArgs false
attribute [local go_sem] ext_cell_if ext_frozen_if alloc_cell_if alloc_frozen_if ext_size ext_ext
theorem Try.info21 : (Try.prog.info? 21).map (fun i => (i.zero, i.size, i.bytes)) = some (some (.int .i32 0), 1, 4) := by kernel_rfl
theorem Try.info50 : (Try.prog.info? 50).map (fun i => (i.zero, i.size, i.bytes)) = some (some (.int .i16 0), 1, 2) := by kernel_rfl
theorem i32_bd (z : Int) : -2147483648 ≤ IntKind.i32.wrap z ∧ IntKind.i32.wrap z ≤ 2147483647 := by rw [IntKind.wrap_i32]; omega
theorem i16_bd (z : Int) : -32768 ≤ IntKind.i16.wrap z ∧ IntKind.i16.wrap z ≤ 32767 := by simp [IntKind.wrap, IntKind.bits, IntKind.signed]; omega
theorem wrap32_bd (z : Int) : -2147483648 ≤ wrap32 z ∧ wrap32 z ≤ 2147483647 := by unfold wrap32; omega
theorem set_all {xs : List Value} {P : Value → Prop} (h : ∀ u ∈ xs, P u) {v : Value} (hv : P v) (j : Nat) : ∀ u ∈ xs.set j v, P u := by
  intro u hu
  rcases List.mem_or_eq_of_mem_set hu with h1 | h1
  · exact h u h1
  · rw [h1]; exact hv
theorem gr_drewN {B : Nat} {a w : World} (h : Gr B a w) (n : Nat) : Gr B a (w.drewN n) := by
  induction n with
  | zero => exact h
  | succ n ih => exact ih.drew
theorem made_all (z : Value) (P : Value → Prop) (hp : P z) (n : Nat) : ∀ u ∈ (madeCells #[z] n).toList, P u := by
  intro u hu
  rw [toList_madeCells_one] at hu
  rw [List.eq_of_mem_replicate hu]; exact hp
set_option maxHeartbeats 400000 in
theorem taper_any (bl : Value) (n : Nat) (w : World) (hbl : Ry 0 w.heap.size w I32 bl n) (hn : n ≤ 4999) :
    Calls Try.prog 23 #[bl] w fun e w' => ∃ V : Value, e = .returned V ∧ Ry 0 w'.heap.size w' I32 V n ∧ ∃ x, w' = ext w x := by
  obtain ⟨ba, bc, rfl, hbc, hbr⟩ := hbl
  have HB := hidden hbr
  clear hbr
  obtain ⟨i0, hi, hz0, hz1, hz2⟩ := info_parts Try.info21
  have hs1 : ((n : Int) + 1) * ((n : Int) + 1) = (((n + 1) * (n + 1) : Nat) : Int) := by simp
  obtain ⟨S2, hS2⟩ : ∃ S2, (n + 1) * (n + 1) = S2 := ⟨_, rfl⟩
  have hs2 : 0 < S2 := by rw [← hS2]; exact Nat.mul_pos (by omega) (by omega)
  have hs3 : S2 ≤ 25000000 := by rw [← hS2]; exact Nat.le_trans (Nat.mul_le_mul (show n + 1 ≤ 5000 by omega) (show n + 1 ≤ 5000 by omega)) (by decide)
  rw [hS2] at hs1
  clear hS2
  go_enter Try.func23, Try.ntmps23
  go_wp2_with (first | (at_make; refine wpList_make_full _ rfl _ _ 26 rfl w.heap.size 21 i0 (.int .i32 0) 1 Try.underlying26 hi hz0 hz1 .i64 .i64 (n : Int) (n : Int) n rfl rfl rfl rfl (by rw [hz2]; omega) (by unfold maxLen; omega) (Nat.le_refl _) ?_))
  intro w1 hown hgrow
  go_wp2
  refine wp_gen (fun wa => Gr w.heap.size w wa ∧ ∃ xs, wa.ownsRow w.heap.size 21 1 (.slice (some ⟨w.heap.size, 0, none⟩) n n) n xs ∧ ∀ u ∈ xs, I32 u) ⟨(Gr.refl w).grown hgrow (by simp), _, hown, made_all _ I32 ⟨0, rfl, by decide, by decide⟩ n⟩ ?_
  clear hown hgrow w1
  rintro wa ⟨hgr, xs, hown, hxs⟩
  go_loopw [17] (fun i wi => ∃ (j : Nat) (xs : List Value), j ≤ n ∧ i = .int .i64 j ∧ Gr w.heap.size w wi ∧ wi.ownsRow w.heap.size 21 1 (.slice (some ⟨w.heap.size, 0, none⟩) n n) n xs ∧ ∀ u ∈ xs, I32 u) (fun i _ => n - (intOf i).toNat)
  case atStart => exact ⟨0, xs, by omega, rfl, hgr, hown, hxs⟩
  case round =>
    clear hgr hown hxs
    obtain ⟨j, xs, hj, rfl, hgr, hown, hxs⟩ := hrel
    by_cases hjn : j < n
    · obtain ⟨g, rfl, _, hg, hc⟩ := HB.out (by omega)
      obtain ⟨u, hu, z, rfl, hz1', hz2'⟩ := hc j hjn
      have hu' : wr.cell? ⟨g, j, none⟩ = some (.int .i32 z) := by rw [hgr.1.cell (p := ⟨g, j, none⟩) hg]; exact hu
      obtain ⟨old, hold⟩ : ∃ old, wr.cell? ⟨w.heap.size, j, none⟩ = some old := by
        rw [hown.cellAt j (by omega)]
        exact ⟨xs[j]'(by have := hown.1; omega), List.getElem?_eq_getElem _⟩
      have hfr := hown.frozenAt j
      have HO := hidden hown
      have HX := hidden hxs
      clear hu hc hown hxs
      go_wp2
      exact ⟨⟨j + 1, _, by omega, by go_num, hgr.setCell (Nat.le_refl _) _, (HO.out.stored j _).1, set_all HX.out ⟨_, rfl, wrap32_bd _⟩ j⟩, by simp [intOf]; omega⟩
    · go_wp2
      go_ret
      exact ⟨_, rfl, (Ry.own hown hxs).mono (Nat.zero_le _) (Nat.le_refl _), hgr.of⟩
set_option maxHeartbeats 400000 in
theorem auto_any (bl : Value) (n m : Nat) (w : World) (hbl : Ry 0 w.heap.size w I32 bl n) (hn : n ≤ 4999) (hm : m ≤ 32) :
    Calls Try.prog 22 #[bl, .int .i64 m] w fun e w' => e = .returned (.slice (some ⟨w.heap.size, 0, none⟩) (m + 1) (m + 1)) ∧ (∃ xs, w'.ownsRow w.heap.size 2 1 (.slice (some ⟨w.heap.size, 0, none⟩) (m + 1) (m + 1)) (m + 1) xs ∧ ∀ u ∈ xs, I64 u) ∧ ∃ x, w' = ext w x := by
  obtain ⟨ba, bc, rfl, hbc, hbr⟩ := hbl
  have HB := hidden hbr
  clear hbr
  obtain ⟨i0, hi, hz0, hz1, hz2⟩ := info_parts Try.info2
  obtain ⟨M, hM⟩ : ∃ M, m + 1 = M := ⟨_, rfl⟩
  have hM2 : (m : Int) + 1 = (M : Int) := by omega
  rw [hM]
  go_enter Try.func22, Try.ntmps22
  go_wp2_with (first | (at_make; refine wpList_make_full _ rfl _ _ 35 rfl w.heap.size 2 i0 (.int .i64 0) 1 Try.underlying35 hi hz0 hz1 .i64 .i64 (M : Int) (M : Int) M rfl rfl rfl rfl (by rw [hz2]; omega) (by unfold maxLen; omega) (Nat.le_refl _) ?_))
  intro w1 hown hgrow
  go_wp2
  refine wp_gen (fun wa => Gr w.heap.size w wa ∧ ∃ xs, wa.ownsRow w.heap.size 2 1 (.slice (some ⟨w.heap.size, 0, none⟩) M M) M xs ∧ ∀ u ∈ xs, I64 u) ⟨(Gr.refl w).grown hgrow (by simp), _, hown, made_all _ I64 ⟨0, rfl, by decide, by decide⟩ M⟩ ?_
  clear hown hgrow w1
  rintro wa ⟨hgr, xs, hown, hxs⟩
  go_loopw [14] (fun i wi => ∃ (j : Nat) (xs : List Value), j ≤ M ∧ i = .int .i64 j ∧ Gr w.heap.size w wi ∧ wi.ownsRow w.heap.size 2 1 (.slice (some ⟨w.heap.size, 0, none⟩) M M) M xs ∧ ∀ u ∈ xs, I64 u) (fun i _ => M - (intOf i).toNat)
  case atStart => exact ⟨0, xs, by omega, rfl, hgr, hown, hxs⟩
  case round =>
    clear hgr hown hxs
    obtain ⟨j, xs, hj, rfl, hgr, hown, hxs⟩ := hrel
    by_cases hjn : j < M
    · have HX := hidden hxs
      clear hxs
      go_wp2
      refine wp_gen (fun wa => Gr w.heap.size w wa ∧ wa.ownsRow w.heap.size 2 1 (.slice (some ⟨w.heap.size, 0, none⟩) M M) M xs) ⟨hgr, hown⟩ ?_
      clear hown hgr
      clear wr
      rintro wb ⟨hgr, hown⟩
      go_loopw [7, 8] (fun s i wi => ∃ (y : Int) (k : Nat), j ≤ k ∧ k ≤ max j n ∧ (-9223372036854775808 ≤ y ∧ y ≤ 9223372036854775807) ∧ s = .int .i64 y ∧ i = .int .i64 k ∧ Gr w.heap.size w wi ∧ wi.ownsRow w.heap.size 2 1 (.slice (some ⟨w.heap.size, 0, none⟩) M M) M xs) (fun _ i _ => n - (intOf i).toNat)
      case atStart => exact ⟨0, j, by omega, by omega, by omega, rfl, rfl, hgr, hown⟩
      case round =>
        clear hgr hown
        obtain ⟨y, k, hjk, hk, hy, rfl, rfl, hgr, hown⟩ := hrel
        by_cases hkn : k < n
        · have HO := hidden hown
          clear hown
          obtain ⟨g, rfl, _, hg, hc⟩ := HB.out (by omega)
          obtain ⟨u, hu, z, rfl, hz1', hz2'⟩ := hc k hkn
          obtain ⟨u2, hu2, z2, rfl, hz3', hz4'⟩ := hc (k - j) (by omega)
          have hu' : wr.cell? ⟨g, k, none⟩ = some (.int .i32 z) := by rw [hgr.1.cell (p := ⟨g, k, none⟩) hg]; exact hu
          have hu2' : wr.cell? ⟨g, k - j, none⟩ = some (.int .i32 z2) := by rw [hgr.1.cell (p := ⟨g, k - j, none⟩) hg]; exact hu2
          have e1 : (k : Int) - (j : Int) = ((k - j : Nat) : Int) := by omega
          have HY := hidden hy
          clear hu hu2 hc
          go_wp2_with fail
          go_quiet (fail)
          go_wp2
          exact ⟨⟨_, k + 1, by omega, by omega, wrap64_bd _, rfl, by go_num, gr_drewN hgr nq, HO.out⟩, by simp [intOf]; omega⟩
        · obtain ⟨old, hold⟩ : ∃ old, wr.cell? ⟨w.heap.size, j, none⟩ = some old := by
            rw [hown.cellAt j (by omega)]
            exact ⟨xs[j]'(by have := hown.1; omega), List.getElem?_eq_getElem _⟩
          have hfr := hown.frozenAt j
          have HO := hidden hown
          clear hown
          go_wp2
          exact ⟨⟨j + 1, _, by omega, by go_num, hgr.setCell (Nat.le_refl _) _, (HO.out.stored j _).1, set_all HX.out ⟨_, rfl, hy⟩ j⟩, by simp [intOf]; omega⟩
    · go_wp2
      go_ret
      exact ⟨rfl, ⟨xs, hown, hxs⟩, hgr.of⟩
end Go.Proofs.Qxb6500679a
