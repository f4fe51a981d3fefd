import Derived.Test.Qxb6500688aSplit
namespace Go.Proofs.Qxb6500688a
open Go.RowKit Go.BigFrame
set_option linter.unusedSimpArgs false
attribute [local go_sem] ext_cell_if ext_frozen_if alloc_cell_if alloc_frozen_if ext_size ext_ext
theorem single {a : T} {b : Nat} {g : G} (h : a.seq = [(b, g)]) : ∃ l r, a = T.node b l g r := by
  cases a with
  | nil => simp [T.seq] at h
  | node b' l g' r =>
    have hl : l.seq = [] := by
      have := congrArg List.length h
      simp [T.seq] at this
      exact List.eq_nil_of_length_eq_zero (by omega)
    simp [T.seq, hl] at h
    obtain ⟨⟨rfl, rfl⟩, _⟩ := h
    exact ⟨l, r, rfl⟩
set_option maxRecDepth 100000 in
set_option maxHeartbeats 1000000 in
theorem concat_any (l r : T) (w : World) (hl : l.Rep w) (hr : r.Rep w) (hn : (l.blocks ++ r.blocks).Nodup) (hsz : l.sz + r.sz ≤ 40000) :
    Calls Try.prog 37 #[l.ptr, r.ptr] w fun e w' => ∃ t : T, e = .returned t.ptr ∧ t.seq = l.seq ++ r.seq ∧ t.Rep w' ∧ Tw (l.blocks ++ r.blocks) w w' := by
  cases r with
  | nil =>
    show Calls Try.prog 37 #[l.ptr, .pointer none] w _
    have HL := hidden hl
    clear hl hr hn
    go_enter Try.func37, Try.ntmps37
    go_wp2
    go_ret
    exact ⟨l, rfl, by simp [T.seq], HL.out, (Tw.refl w).mono (by simp)⟩
  | node b0 l0 g0 r0 =>
    obtain ⟨b, g, s, hs⟩ : ∃ b g s, (T.node b0 l0 g0 r0).seq = (b, g) :: s := by
      cases h : (T.node b0 l0 g0 r0).seq with
      | nil => simp [T.seq] at h
      | cons p s => exact ⟨p.1, p.2, s, rfl⟩
    have S1 := hidden (split_any (T.node b0 l0 g0 r0) 1 w hr (List.nodup_append.1 hn).2.1 (by omega) (by omega))
    have HL := hidden hl
    have HN := hidden hn
    have HSQ := hidden hs
    have J : Hid (∀ (a c : T) w3, a.seq = (T.node b0 l0 g0 r0).seq.take 1 → c.seq = (T.node b0 l0 g0 r0).seq.drop 1 → a.Rep w3 → c.Rep w3 → Tw (T.node b0 l0 g0 r0).blocks w w3 → Calls Try.prog 36 #[l.ptr, .pointer (some ⟨b, 0, none⟩), c.ptr] w3 (JoinOK w3 l b g c)) := fun a c w3 h1 h2 h3 h4 h5 => by
      obtain ⟨e1, e2⟩ := parts h1 h2
      rw [hs] at h1
      obtain ⟨l', r', rfl⟩ := single (b := b) (g := g) (h1.trans (by simp))
      have hab : (T.node b l' g r').blocks = [b] := by rw [blocks_of h1]; simp
      refine join_any l c b g w3 (hl.tw h5 fun k hk e => (List.nodup_append.1 hn).2.2 k hk k e rfl) h4 h3.raw ?_ (by omega)
      have := hn
      rw [e1, hab] at this
      simpa using this
    show Calls Try.prog 37 #[l.ptr, .pointer (some ⟨b0, 0, none⟩)] w _
    have S2 : Hid (Calls Try.prog 35 #[.pointer (some ⟨b0, 0, none⟩), .int .i64 1] w (SplitOK w (T.node b0 l0 g0 r0) 1)) := S1.out
    clear hl hr hn hs S1
    go_enter Try.func37, Try.ntmps37
    go_wp2_with (first
      | (go_at_call 35; (with_reducible refine S2.out.mono ?_); rintro _ w3 ⟨a, c, rfl, h1, h2, h3, h4, h5⟩; have E1 := hidden h1; have E2 := hidden h2; have E3 := hidden h3; have E4 := hidden h4; have E5 := hidden h5; obtain ⟨l', r', rfl⟩ := single (b := b) (g := g) (h1.trans (by rw [HSQ.out]; rfl)); clear h1 h2 h3 h4 h5)
      | (go_at_call 36; have J2 := J.out _ c w3 E1.out E2.out E3.out E4.out E5.out; refine Calls.mono J2 ?_; clear J2; rintro _ w4 ⟨t', rfl, k1, k2, k3⟩; have F1 := hidden k1; have F2 := hidden k2; have F3 := hidden k3; clear k1 k2 k3))
    go_ret
    obtain ⟨e1, e2⟩ := parts E1.out E2.out
    refine ⟨t', rfl, ?_, F2.out, ?_⟩
    · rw [F1.out, E2.out, HSQ.out]; simp
    · have hab : (T.node b l' g r').blocks = [b] := by rw [blocks_of E1.out, HSQ.out]; simp
      refine ((E5.out.mono (by intro k hk; simp [hk]))).trans (F3.out.mono ?_)
      rw [e1, hab]
      intro k hk
      simpa using hk
end Go.Proofs.Qxb6500688a
