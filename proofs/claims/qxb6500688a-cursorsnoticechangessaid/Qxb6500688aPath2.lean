import Derived.Test.Qxb6500688aValid
namespace Go.Proofs.Qxb6500688a
/-- The block of a tree's root. -/
def T.blk : T → Nat
  | .nil => 0
  | .node b _ _ _ => b
theorem T.ptr_of {t : T} (h : t ≠ .nil) : t.ptr = .pointer (some ⟨t.blk, 0, none⟩) := by cases t with | nil => exact absurd rfl h | node b l g r => rfl
theorem path_next (d : Bool) (t : T) : t.blocks.Nodup → ∀ k j x y, (pathD d t k)[j]? = some x → (pathD d t k)[j + 1]? = some y → (y = x.bak d ∨ y = x.kid d) ∧ x.blocks.Nodup := by
  induction t using T.ind d with
  | h0 => intro _ k j x y hx; simp [pathD] at hx
  | h1 t ht ihb ihk =>
    intro hn k j x y hx hy
    obtain ⟨nb, nk⟩ := nodup_bk d hn
    rw [pathD_eq d ht] at hx hy
    cases j with
    | zero =>
      simp at hx hy
      subst hx
      refine ⟨?_, hn⟩
      split at hy
      · rename_i h
        obtain ⟨s, hs⟩ := pathD_cons d (sz_nil (t := t.bak d) (by omega)) k
        rw [hs] at hy; simp at hy
        exact .inl hy.symm
      · split at hy
        · simp at hy
        · by_cases hk : t.kid d = .nil
          · rw [hk] at hy; simp [pathD] at hy
          · obtain ⟨s, hs⟩ := pathD_cons d hk (k - (t.bak d).sz - 1)
            rw [hs] at hy; simp at hy
            exact .inr hy.symm
    | succ j =>
      simp only [List.getElem?_cons_succ] at hx hy
      split at hx
      · rename_i h
        rw [if_pos h] at hy
        exact ihb nb k j x y hx hy
      · rename_i h
        rw [if_neg h] at hy
        split at hx
        · simp at hx
        · rename_i h'
          rw [if_neg h'] at hy
          exact ihk nk _ j x y hx hy
/-- The pointers differ where the path does not go down the back child. -/
theorem path_ne (d : Bool) {t : T} (hn : t.blocks.Nodup) {k j : Nat} {x y : T} (hx : (pathD d t k)[j]? = some x) (hy : (pathD d t k)[j + 1]? = some y) (hb : ¬ Bk d (pathD d t k) j) (h0 : x.bak d ≠ .nil) : (x.bak d).blk ≠ y.blk := by
  obtain ⟨h1, h2⟩ := path_next d t hn k j x y hx hy
  have hy0 := (path_mem d t k y (List.mem_of_getElem? hy)).1
  rcases h1 with h1 | h1
  · exact absurd ⟨x, y, hx, hy, h1.symm⟩ hb
  · subst h1
    intro e
    cases x with
    | nil => exact hy0 (by simp [T.kid])
    | node b l g r =>
      rw [T.blocks_node] at h2
      have hl : l ≠ .nil := by cases d <;> simp [T.bak, T.kid] at h0 hy0 <;> assumption
      have hr : r ≠ .nil := by cases d <;> simp [T.bak, T.kid] at h0 hy0 <;> assumption
      have e' : l.blk = r.blk := by cases d <;> simp [T.bak, T.kid] at e <;> first | exact e | exact e.symm
      cases l with
      | nil => exact hl rfl
      | node lb ll lg lr =>
        cases r with
        | nil => exact hr rfl
        | node rb rl rg rr =>
          simp [T.blk] at e'
          exact (List.nodup_append.1 h2).2.2 lb (by simp [T.blocks_node]) rb (by simp [T.blocks_node]) e'
theorem pathD_zero (d : Bool) {t : T} (ht : t ≠ .nil) : pathD d t 0 = t :: pathD d (t.bak d) 0 := by
  rw [pathD_eq d ht]
  split
  · rfl
  · rename_i h
    rw [if_pos (by omega)]
    cases hb : t.bak d with
    | nil => simp [pathD]
    | node b l g r => rw [hb] at h; simp [T.sz] at h
theorem bak_ht (d : Bool) {t : T} (ht : t ≠ .nil) : (t.bak d).ht < t.ht := by
  cases t with
  | nil => exact absurd rfl ht
  | node b l g r => cases d <;> simp [T.bak, T.ht] <;> omega
theorem rep_bk (d : Bool) {t : T} {w : World} (h : t.Rep w) : (t.bak d).Rep w ∧ (t.kid d).Rep w := by
  cases t with
  | nil => exact ⟨trivial, trivial⟩
  | node b l g r => cases d <;> simp [T.bak, T.kid] <;> exact ⟨by first | exact h.2.1 | exact h.2.2, by first | exact h.2.2 | exact h.2.1⟩
theorem bk_next (x : T) (w : World) (hx : x ≠ .nil) (h : x.Rep w) : (Calls Try.prog 25 #[.pointer (some ⟨x.blk, 0, none⟩)] w fun e w' => e = .returned (x.kid true).ptr ∧ w' = w) ∧ (Calls Try.prog 26 #[.pointer (some ⟨x.blk, 0, none⟩)] w fun e w' => e = .returned (x.bak true).ptr ∧ w' = w) := by
  cases x with
  | nil => exact absurd rfl hx
  | node b l g r => exact ⟨(right_any b l r g w h).1, (left_any b l r g w h).1⟩
theorem bk_prev (x : T) (w : World) (hx : x ≠ .nil) (h : x.Rep w) : (Calls Try.prog 29 #[.pointer (some ⟨x.blk, 0, none⟩)] w fun e w' => e = .returned (x.kid false).ptr ∧ w' = w) ∧ (Calls Try.prog 30 #[.pointer (some ⟨x.blk, 0, none⟩)] w fun e w' => e = .returned (x.bak false).ptr ∧ w' = w) := by
  cases x with
  | nil => exact absurd rfl hx
  | node b l g r => exact ⟨(left_any b l r g w h).2, (right_any b l r g w h).2⟩
end Go.Proofs.Qxb6500688a
