import Derived.Test.Qxb6500688aTree
import Derived.ArgAppend
namespace Go.Proofs.Qxb6500688a
open Go.RowKit Go.BigFrame
set_option linter.unusedSimpArgs false
attribute [local go_sem] ext_cell_if ext_frozen_if alloc_cell_if alloc_frozen_if ext_size ext_ext
theorem Try.inf41 : (Try.prog.info? 41).map (fun i => (i.zero, i.size, i.bytes)) = some (some (.agg #[.int .i64 0, .int .i64 0, .int .i64 0, .int .i64 0]), 4, 32) := by kernel_rfl
def I64 (u : Value) : Prop := ∃ x : Int, u = .int .i64 x ∧ -9223372036854775808 ≤ x ∧ x ≤ 9223372036854775807
/-- A row of hunks in block g with room for c, the first n all whole numbers. -/
def Rw (w : World) (g n c : Nat) : Prop := ∃ cur, w.heap[g]? = some (.cells cur 41) ∧ cur.size = c * 4 ∧ n ≤ c ∧ ∀ j, j < n * 4 → ∃ z : Int, cur[j]? = some (.int .i64 z) ∧ (-9223372036854775808 ≤ z ∧ z ≤ 9223372036854775807)
theorem Rw.lt {w : World} {g n c : Nat} (h : Rw w g n c) : g < w.heap.size := by obtain ⟨_, h, _⟩ := h; exact lt_of_cells h
theorem Rw.at {w : World} {g n c : Nat} (h : Rw w g n c) (j : Nat) (hj : j < n * 4) : ∃ z : Int, w.cell? ⟨g, j, none⟩ = some (.int .i64 z) ∧ (-9223372036854775808 ≤ z ∧ z ≤ 9223372036854775807) := by
  obtain ⟨cur, h1, _, _, h4⟩ := h
  obtain ⟨z, hz, hb⟩ := h4 j hj
  exact ⟨z, (cell_of_cells h1 j).trans hz, hb⟩
theorem Rw.mark {w : World} {g n c : Nat} (h : Rw w g n c) (j : Nat) : w.frozen? ⟨g, j, none⟩ = false := by obtain ⟨_, h1, _⟩ := h; exact mark_of_cells h1 j
theorem Rw.set {w : World} {g n c : Nat} (h : Rw w g n c) (j : Nat) (z : Int) (hz : -9223372036854775808 ≤ z ∧ z ≤ 9223372036854775807) : Rw (w.setCell ⟨g, j, none⟩ (.int .i64 z)) g n c := by
  obtain ⟨cur, h1, h2, h3, h4⟩ := h
  refine ⟨_, blk_set h1 j _, by simpa using h2, h3, fun k hk => ?_⟩
  obtain ⟨y, hy, hb⟩ := h4 k hk
  by_cases e : j = k
  · subst e
    have hl : j < cur.size := by rw [h2]; exact Nat.lt_of_lt_of_le hk (Nat.mul_le_mul_right 4 h3)
    exact ⟨z, by rw [Array.getElem?_setIfInBounds_self_of_lt hl], hz⟩
  · exact ⟨y, by rw [Array.getElem?_setIfInBounds_ne e]; exact hy, hb⟩
theorem Rw.keep {w w' : World} {g n c : Nat} (h : Rw w g n c) (hk : w'.heap[g]? = w.heap[g]?) : Rw w' g n c := by
  obtain ⟨cur, h1, h2⟩ := h
  exact ⟨cur, hk.trans h1, h2⟩
theorem Rw.ext {w : World} {g n c : Nat} (h : Rw w g n c) (x : Nat → Array Obj × Nat) : Rw (Qxb6500688a.ext w x) g n c := h.keep ((ext_below w x).block g h.lt)
theorem Rw.alloc {w : World} {g n c : Nat} (h : Rw w g n c) (o : Obj) : Rw (w.alloc o) g n c := h.keep (Below.heap_alloc w o g h.lt)
theorem Rw.of_own {w : World} {A g n c : Nat} {xs : List Value} (h : w.ownsRow A 41 4 (.slice (some ⟨g, 0, none⟩) n c) n xs) (hx : ∀ u ∈ xs, I64 u) : Rw w g n c := by
  obtain ⟨hl, h | ⟨g1, cap, cur, h1, h2, h3, h4, h5, h6, h7⟩⟩ := h
  · simp at h
  · simp at h1
    obtain ⟨rfl, rfl⟩ := h1
    refine ⟨cur, h3, h6, h4, fun j hj => ?_⟩
    have hj2 : j < xs.length := by omega
    obtain ⟨z, e, hz⟩ := hx xs[j] (List.getElem_mem hj2)
    refine ⟨z, ?_, hz⟩
    rw [← e, ← Array.getElem?_toList, ← List.getElem?_eq_getElem hj2, ← h7, List.getElem?_take]
    simp [hj]
theorem Rw.prefix {w : World} {g n c : Nat} (h : Rw w g n c) (m : Nat) (hm : m ≤ n) : Rw w g m c := by
  obtain ⟨cur, h1, h2, h3, h4⟩ := h
  exact ⟨cur, h1, h2, by omega, fun j hj => h4 j (by omega)⟩
theorem aE_any (a b c d : Int) (w : World) : Calls Try.prog 27 #[.agg #[.int .i64 a, .int .i64 b, .int .i64 c, .int .i64 d]] w fun e w' => e = .returned (.int .i64 (wrap64 (a + b))) ∧ ∃ x, w' = ext w x := by
  go_enter Try.func27, Try.ntmps27
  go_wp2
  go_ret
  exact ⟨rfl, ((Gr.refl w).alloc _).of⟩
theorem bE_any (a b c d : Int) (w : World) : Calls Try.prog 28 #[.agg #[.int .i64 a, .int .i64 b, .int .i64 c, .int .i64 d]] w fun e w' => e = .returned (.int .i64 (wrap64 (c + d))) ∧ ∃ x, w' = ext w x := by
  go_enter Try.func28, Try.ntmps28
  go_wp2
  go_ret
  exact ⟨rfl, ((Gr.refl w).alloc _).of⟩
def tv (a b c d a' c' : Int) : Bool := wrap64 (a + b) == a' && wrap64 (c + d) == c'
set_option maxHeartbeats 1000000 in
theorem touch_val (a b c d a' b' c' d' : Int) (w : World) : Calls Try.prog 39 #[.agg #[.int .i64 a, .int .i64 b, .int .i64 c, .int .i64 d], .agg #[.int .i64 a', .int .i64 b', .int .i64 c', .int .i64 d']] w fun e w' => e = .returned (.bool (tv a b c d a' c')) ∧ ∃ x, w' = ext w x := by
  have AE := hidden (aE_any a b c d)
  have BE := hidden (bE_any a b c d)
  unfold tv
  obtain ⟨S, hS⟩ : ∃ S, wrap64 (a + b) = S := ⟨_, rfl⟩
  obtain ⟨U, hU⟩ : ∃ U, wrap64 (c + d) = U := ⟨_, rfl⟩
  rw [hS] at AE ⊢
  rw [hU] at BE ⊢
  clear hS hU
  go_enter Try.func39, Try.ntmps39
  by_cases h : S = a'
  · subst h
    go_upto_region 1 with (fail)
    refine wp_region_ext (by kernel_rfl) (by kernel_rfl) ?_
    repeat (go_big_quiet_step ((first | (go_at_call 27; first | exact Calls_ext (AE.out _) | exact Calls_ext2 (AE.out _)) | (go_at_call 28; first | exact Calls_ext (BE.out _) | exact Calls_ext2 (BE.out _)))))
    rintro w2 ⟨x, rfl⟩
    go_wp2
    go_ret
    exact ⟨by simp, (((Gr.refl w).alloc _).alloc _).ext x |>.of⟩
  · have hb : (S == a') = false := by simp [h]
    go_upto_region 1 with (fail)
    refine wp_region_ext (by kernel_rfl) (by kernel_rfl) ?_
    repeat (go_big_quiet_step ((first | (go_at_call 27; first | exact Calls_ext (AE.out _) | exact Calls_ext2 (AE.out _)) | (go_at_call 28; first | exact Calls_ext (BE.out _) | exact Calls_ext2 (BE.out _)))))
    rintro w2 ⟨x, rfl⟩
    go_wp2
    go_ret
    exact ⟨by simp [hb], (((Gr.refl w).alloc _).alloc _).ext x |>.of⟩
end Go.Proofs.Qxb6500688a
