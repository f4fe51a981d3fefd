import Derived.Test.Qxb6500688aStepp
namespace Go.Proofs.Qxb6500688a
open Go.RowKit
/-- The path's last is the hunk's own node. -/
theorem path_last (t : T) : ∀ k, k < t.sz → ∃ b l g r, (pathD true t k).getLast? = some (T.node b l g r) ∧ t.seq[k]? = some (b, g) := by
  induction t with
  | nil => intro k hk; simp [T.sz] at hk
  | node b l g r ihl ihr =>
    intro k hk
    simp only [T.sz] at hk
    have h0 : T.node b l g r ≠ .nil := by simp
    have hb : (T.node b l g r).bak true = l := rfl
    have hkd : (T.node b l g r).kid true = r := rfl
    rcases Nat.lt_trichotomy k l.sz with h | h | h
    · obtain ⟨b', l', g', r', h1, h2⟩ := ihl k h
      refine ⟨b', l', g', r', ?_, ?_⟩
      · rw [pathD_lt true h0 (by rw [hb]; exact h), hb, List.getLast?_cons, h1]; rfl
      · rw [(take_left h).2]; exact h2
    · subst h
      refine ⟨b, l, g, r, ?_, take_mid.2⟩
      have := pathD_mid true h0
      rw [hb] at this
      rw [this]; rfl
    · obtain ⟨m, rfl⟩ : ∃ m, k = l.sz + 1 + m := ⟨k - l.sz - 1, by omega⟩
      obtain ⟨b', l', g', r', h1, h2⟩ := ihr m (by omega)
      refine ⟨b', l', g', r', ?_, ?_⟩
      · have := pathD_gt true h0 m
        rw [hb, hkd] at this
        rw [this, List.getLast?_cons, h1]; rfl
      · rw [take_right.2]; exact h2
theorem tot_step {s : List (Nat × G)} {k : Nat} {p : Nat × G} (h : s[k]? = some p) : totA (s.take (k + 1)) = totA (s.take k) + (p.2.ga + p.2.la) ∧ totB (s.take (k + 1)) = totB (s.take k) + (p.2.gb + p.2.lb) := by
  rw [List.take_add_one, h, totA_app, totB_app]
  simp [totA, totB]
theorem wrap_next (x y z u : Int) : wrap64 (wrap64 (wrap64 (x + y) + z) + u) = wrap64 (x + (y + z) + u) := by unfold wrap64; omega
end Go.Proofs.Qxb6500688a
