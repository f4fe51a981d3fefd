import Derived.Test.Qxb6500688aPlay
namespace Go.Proofs.Qxb6500688a
open Go.RowKit Go.BigFrame
set_option linter.unusedSimpArgs false
attribute [local go_sem] ext_cell_if ext_frozen_if alloc_cell_if alloc_frozen_if ext_size ext_ext
theorem SmallOK.b {w : World} {v : Value} {n : Nat} {e : Ending} (h : SmallOK w v n e) : ∃ b : Bool, e = .returned (.bool b) ∧ (b = true → n ≤ 65536 ∧ Short w v n) := by
  rcases h with h | ⟨h1, h2⟩
  · exact ⟨false, h, by simp⟩
  · exact ⟨true, h1, fun _ => h2⟩
theorem Pd.keep {ib D : Nat} {t : T} {ver k n : Int} {w w' : World} (h : Pd ib t ver D w k n w') (hx : Ix w ib t ver) (g : Nat) (cs : Array Value) (ty : TypeId) (h1 : ty ≠ 54) (h2 : ty ≠ 46) (hc : w.heap[g]? = some (.cells cs ty)) : w'.heap[g]? = some (.cells cs ty) := by
  have hch : Ch ib t ver D w w' → w'.heap[g]? = some (.cells cs ty) := fun ⟨t', _, h4, _⟩ => by
    refine (h4.2.1 g (lt_of_cells hc) ?_).trans hc
    simp
    refine ⟨fun e => ?_, fun e => ?_⟩
    · subst e
      have := hx.cell
      rw [hc] at this
      simp at this
      exact h2 this.2
    · obtain ⟨cs', h5⟩ := hx.rep.ty g e
      rw [hc] at h5
      simp at h5
      exact h1 h5.2
  have hgr : Gr w.heap.size w w' → w'.heap[g]? = some (.cells cs ty) := fun h4 => (h4.1.block g (lt_of_cells hc)).trans hc
  rcases h with ⟨_, ⟨_, h3⟩ | ⟨_, h3⟩⟩ | ⟨_, h3⟩ | ⟨_, _, h3⟩
  · exact hch h3
  · exact hgr h3
  · exact hch h3
  · exact hgr h3
theorem Cu.kept {A cb ib : Nat} {w w' : World} {ver : Int} {path : List T} {i a b c e : Int} (h : Cu A w cb ib ver path i a b c e) (hk : ∀ (g : Nat) (cs : Array Value) (ty : TypeId), ty ≠ 54 → ty ≠ 46 → w.heap[g]? = some (.cells cs ty) → w'.heap[g]? = some (.cells cs ty)) : Cu A w' cb ib ver path i a b c e := by
  obtain ⟨pa, pc, h1, h2⟩ := h
  refine ⟨pa, pc, hk _ _ _ (by decide) (by decide) h1, own_move h2 fun g hg => ?_⟩
  rcases h2.2 with ⟨e1, _⟩ | ⟨g1, cap, cur, e1, _, h3, _⟩
  · rw [e1] at hg; simp [Value.ownBlock] at hg
  · rw [e1] at hg
    simp [Value.ownBlock] at hg
    subst hg
    rw [h3]; exact hk _ _ _ (by decide) (by decide) h3
theorem own_kept {A n : Nat} {w w' : World} {v : Value} {xs : List Value} (h2 : w.ownsRow A 41 4 v n xs) (hk : ∀ (g : Nat) (cs : Array Value) (ty : TypeId), ty ≠ 54 → ty ≠ 46 → w.heap[g]? = some (.cells cs ty) → w'.heap[g]? = some (.cells cs ty)) : w'.ownsRow A 41 4 v n xs := by
  refine own_move h2 fun g hg => ?_
  rcases h2.2 with ⟨e1, _⟩ | ⟨g1, cap, cur, e1, _, h3, _⟩
  · rw [e1] at hg; simp [Value.ownBlock] at hg
  · rw [e1] at hg
    simp [Value.ownBlock] at hg
    subst hg
    rw [h3]; exact hk _ _ _ (by decide) (by decide) h3
theorem hs_len (s : List (Nat × G)) : ∀ k, k ≤ s.length → (hs s k).length = k * 4
  | 0, _ => rfl
  | k + 1, h => by
    have h1 : s[k]? = some s[k] := List.getElem?_eq_getElem (by omega)
    rw [hs, h1, List.length_append, hs_len s k (by omega)]
    simp
    omega
theorem hs_at (s : List (Nat × G)) (m : Nat) (p : Nat × G) (hp : s[m]? = some p) : ∀ k, m < k → k ≤ s.length → (hs s k)[m * 4]? = some (.int .i64 (wrap64 (totA (s.take m) + p.2.ga))) ∧ (hs s k)[m * 4 + 1]? = some (.int .i64 p.2.la) ∧ (hs s k)[m * 4 + 2]? = some (.int .i64 (wrap64 (totB (s.take m) + p.2.gb))) ∧ (hs s k)[m * 4 + 3]? = some (.int .i64 p.2.lb)
  | 0, h, _ => by omega
  | k + 1, h, hk => by
    have hl := hs_len s k (by omega)
    by_cases e : m = k
    · subst e
      simp only [hs, hp]
      refine ⟨?_, ?_, ?_, ?_⟩
      · rw [List.getElem?_append_right (by omega), hl]; simp
      · rw [List.getElem?_append_right (by omega), hl]; simp
      · rw [List.getElem?_append_right (by omega), hl]; simp
      · rw [List.getElem?_append_right (by omega), hl]; simp
    · obtain ⟨h1, h2, h3, h4⟩ := hs_at s m p hp k (by omega) (by omega)
      simp only [hs]
      refine ⟨?_, ?_, ?_, ?_⟩
      · rw [List.getElem?_append_left (by omega)]; exact h1
      · rw [List.getElem?_append_left (by omega)]; exact h2
      · rw [List.getElem?_append_left (by omega)]; exact h3
      · rw [List.getElem?_append_left (by omega)]; exact h4
/-- The cursor that the law sets: in the middle, or on none. -/
def Cm (cb : Nat) (w : World) (ib : Nat) (ver : Int) (t : T) : Prop :=
  ∃ path i x y z u, Cu cb w cb ib ver path i x y z u ∧ (0 < t.sz → path ≠ [] ∧ ∃ p : Nat × G, t.seq[t.sz / 2]? = some p ∧ x = wrap64 (totA (t.seq.take (t.sz / 2)) + p.2.ga) ∧ y = p.2.la ∧ z = wrap64 (totB (t.seq.take (t.sz / 2)) + p.2.gb) ∧ u = p.2.lb) ∧ (t.sz = 0 → path = [])
theorem cur_mid (ib : Nat) (t : T) (ver : Int) (w : World) (hx : Ix w ib t ver) : Calls Try.prog 7 #[.pointer (some ⟨ib, 0, none⟩), .int .i64 ((t.sz / 2 : Nat) : Int)] w fun e w' => e = .returned (.pointer (some ⟨w.heap.size, 0, none⟩)) ∧ Gr w.heap.size w w' ∧ Cm w.heap.size w' ib ver t := by
  by_cases h : t.sz = 0
  · refine (cursor_out ib t ver _ w hx (.inr (by omega))).mono ?_
    rintro e w' ⟨h1, h2, h3⟩
    exact ⟨h1, h2, _, _, _, _, _, _, h3, fun h' => by omega, fun _ => rfl⟩
  · have h0 : t.sz / 2 < t.seq.length := by rw [T.sz_seq]; omega
    refine (cursor_in ib t ver (t.sz / 2) t.seq[t.sz / 2] w hx (List.getElem?_eq_getElem h0)).mono ?_
    rintro e w' ⟨h1, h2, h3⟩
    rw [pathTo_eq] at h3
    obtain ⟨s0, hs0⟩ := pathD_cons true (sz_nil (t := t) (by omega)) (t.sz / 2)
    exact ⟨h1, h2, _, _, _, _, _, _, h3, fun _ => ⟨by rw [hs0]; simp, _, List.getElem?_eq_getElem h0, rfl, rfl, rfl, rfl⟩, fun h' => absurd h' h⟩
end Go.Proofs.Qxb6500688a
