import Derived.Test.Qxb6500688aMt
namespace Go.Proofs.Qxb6500688a
open Go.RowKit Go.BigFrame
set_option linter.unusedSimpArgs false
attribute [local go_sem] ext_cell_if ext_frozen_if alloc_cell_if alloc_frozen_if ext_size ext_ext
/-- A list of m hunks. -/
def Hk (w : World) (v : Value) (m : Nat) : Prop :=
  ∃ a c, v = .slice a m c ∧ (0 < m → ∃ b off, a = some ⟨b, off, none⟩ ∧ b < w.heap.size ∧ ∀ j, j < m * 4 → ∃ z : Int, w.cell? ⟨b, off + j, none⟩ = some (.int .i64 z) ∧ (-9223372036854775808 ≤ z ∧ z ≤ 9223372036854775807))
/-- The script: n steps of seven cells. -/
def Script (w : World) (v : Value) (n : Nat) : Prop :=
  ∃ a c, v = .slice a n c ∧ (0 < n → ∃ b off, a = some ⟨b, off, none⟩ ∧ b < w.heap.size ∧ ∀ i, i < n → ∃ (k lo hi da db ln : Int) (ha : Option Addr) (hm hc : Nat),
    w.cell? ⟨b, off + i * 7, none⟩ = some (.int .u8 k) ∧ w.cell? ⟨b, off + i * 7 + 1, none⟩ = some (.int .i64 lo) ∧ w.cell? ⟨b, off + i * 7 + 2, none⟩ = some (.int .i64 hi) ∧ w.cell? ⟨b, off + i * 7 + 3, none⟩ = some (.slice ha hm hc) ∧
    w.cell? ⟨b, off + i * 7 + 4, none⟩ = some (.int .i64 da) ∧ w.cell? ⟨b, off + i * 7 + 5, none⟩ = some (.int .i64 db) ∧ w.cell? ⟨b, off + i * 7 + 6, none⟩ = some (.int .i64 ln) ∧
    (0 ≤ k ∧ k ≤ 255) ∧ (-9223372036854775808 ≤ lo ∧ lo ≤ 9223372036854775807) ∧ (-9223372036854775808 ≤ hi ∧ hi ≤ 9223372036854775807) ∧ (-9223372036854775808 ≤ da ∧ da ≤ 9223372036854775807) ∧ (-9223372036854775808 ≤ db ∧ db ≤ 9223372036854775807) ∧ (-9223372036854775808 ≤ ln ∧ ln ≤ 9223372036854775807) ∧
    hm ≤ 4398046511104 ∧ Hk w (.slice ha hm hc) hm)
/-- Every list in the first k steps is short. -/
def Short (w : World) (v : Value) (k : Nat) : Prop := ∀ b off n c, v = .slice (some ⟨b, off, none⟩) n c → ∀ i, i < k → ∀ ha hm hc, w.cell? ⟨b, off + i * 7 + 3, none⟩ = some (.slice ha hm hc) → hm ≤ 65536
/-- What zzSmall1 answers. -/
def SmallOK (w : World) (v : Value) (n : Nat) (e : Ending) : Prop := e = .returned (.bool false) ∨ (e = .returned (.bool true) ∧ n ≤ 65536 ∧ Short w v n)
set_option maxRecDepth 100000 in
set_option maxHeartbeats 1000000 in
theorem small_any (v : Value) (n : Nat) (w : World) (hs : Script w v n) (hn : n ≤ 9223372036854775807) : Calls Try.prog 4 #[v] w fun e w' => SmallOK w v n e ∧ w' = w := by
  obtain ⟨a, c, rfl, hs⟩ := hs
  have HS := hidden hs
  clear hs
  go_enter Try.func4, Try.ntmps4
  by_cases h : n ≤ 65536
  · go_wp2
    go_loopw [3, 4] (fun s3 s4 wi => ∃ (k N : Nat), s4 = .int .i64 k ∧ s3 = .int .i64 N ∧ k ≤ n ∧ N ≤ 65536 ∧ wi = w ∧ Short w (.slice a n c) k) (fun _ s4 _ => n - (intOf s4).toNat)
    case atStart => exact ⟨0, n, rfl, rfl, by omega, h, rfl, fun b off n c _ i hi => by omega⟩
    case round =>
      obtain ⟨k, N, rfl, rfl, hk, hN, rfl, hsh⟩ := hrel
      have HH := hidden hsh
      clear hsh
      by_cases hkn : k < n
      · obtain ⟨b, off, rfl, hb, hall⟩ := HS.out (by omega)
        obtain ⟨_, _, _, _, _, _, ha, hm, hc, _, _, _, d3, _, _, _, _, _, _, _, _, _, hm63, _⟩ := hall k hkn
        clear hall
        by_cases hbig : N + hm ≤ 65536
        · go_wp2
          refine ⟨⟨k + 1, N + hm, by go_num, by go_num, by omega, hbig, trivial, ?_⟩, by simp [intOf]; omega⟩
          intro b' off' n' c' e i hi ha' hm' hc' hcell
          simp at e
          obtain ⟨⟨rfl, rfl⟩, rfl, rfl⟩ := e
          rcases Nat.lt_or_ge i k with hik | hik
          · exact HH.out _ _ _ _ rfl i hik _ _ _ hcell
          · obtain rfl : i = k := by omega
            rw [d3] at hcell
            simp at hcell
            omega
        · go_wp2
          go_ret
          exact ⟨.inl rfl, rfl⟩
      · obtain rfl : k = n := by omega
        go_wp2
        go_ret
        exact ⟨.inr ⟨rfl, h, HH.out⟩, rfl⟩
  · go_wp2
    go_ret
    exact ⟨.inl rfl, rfl⟩
end Go.Proofs.Qxb6500688a
