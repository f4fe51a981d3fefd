import Derived.Test.Qxb6500688aSc
import Derived.ProofKit
import Derived.Deep.Slices
import Derived.OpenShut
import Derived.SizedLaws
namespace Go.Proofs.Qxb6500688a
open Go.ChangeShapes Go.WideShapes Go.ChangeAt Go.RowKit
theorem Try.own : ownKnob Try.prog.godebug = none := by kernel_rfl
theorem Try.laidOut : laidOutB Try.prog = true := by kernel_rfl
theorem cells29 : Try.prog.cellsOf 29 = 7 := by kernel_rfl
theorem cells26 : Try.prog.cellsOf 26 = 1 := by kernel_rfl
theorem cells27 : Try.prog.cellsOf 27 = 1 := by kernel_rfl
theorem cells3 : Try.prog.cellsOf 3 = 1 := by kernel_rfl
theorem cells41 : Try.prog.cellsOf 41 = 4 := by kernel_rfl
theorem plain_cell {w : World} {a : Addr} {v : Value} (h : w.cell? a = some v) : a = ⟨a.block, a.off, none⟩ ∧ a.block < w.heap.size := by
  obtain ⟨b, o, s⟩ := a
  unfold World.cell? at h
  simp only at h
  split at h
  · rename_i c t m hb
    cases s with
    | none => exact ⟨rfl, (Array.getElem?_eq_some_iff.1 hb).1⟩
    | some _ => simp at h
  · cases h
theorem bytes41 : Try.prog.bytesOf 41 = 32 := by kernel_rfl
theorem mem_all {H : Type} {P : Program} {e : TypeId} {d : DataW H} {x : Nat} : ∀ {l : List (DataW H)}, d ∈ l → x ∈ d.weights P e → x ∈ DataW.weightsAll P e l
  | [], h, _ => by simp at h
  | c :: r, h, hx => by
    rw [DataW.weightsAll]
    rcases List.mem_cons.1 h with rfl | h
    · exact List.mem_append_left _ hx
    · exact List.mem_append_right _ (mem_all h hx)
theorem hk_of {H : Type} {enc : TypeId × Value → H} {W : World} {v : Value} {fuel : Nat} {x : DataW H × List MemPlace} (h : DataW.trod enc Try.prog W 0 (fun _ => true) true fuel 27 [v] = some x) (hz : ∀ y ∈ x.1.weights Try.prog 27, y ≤ reachBytes) : ∃ a m c, v = .slice a m c ∧ m ≤ 4398046511104 ∧ Hk W v m := by
  rcases Go.Deep.open_slice Try.underlying27 h with ⟨hcs, hx⟩ | ⟨a, len, cap, m, k, D, Pl, hcs, _, hl, hm, hmm, hx, hall⟩
  · simp at hcs
    subst hcs
    exact ⟨none, 0, 0, rfl, by omega, none, 0, rfl, fun h => by omega⟩
  · simp at hcs
    subst hcs
    simp at hmm
    rw [cells41] at hall
    have each : ∀ i, i < len → ∃ x y z u : Int, W.cell? (a.add (i * 4)) = some (.int .i64 x) ∧ W.cell? (a.add (i * 4 + 1)) = some (.int .i64 y) ∧ W.cell? (a.add (i * 4 + 2)) = some (.int .i64 z) ∧ W.cell? (a.add (i * 4 + 3)) = some (.int .i64 u) ∧
        (-9223372036854775808 ≤ x ∧ x ≤ 9223372036854775807) ∧ (-9223372036854775808 ≤ y ∧ y ≤ 9223372036854775807) ∧ (-9223372036854775808 ≤ z ∧ z ≤ 9223372036854775807) ∧ (-9223372036854775808 ≤ u ∧ u ≤ 9223372036854775807) := fun i hi => by
      obtain ⟨cs', h1, h2⟩ := hall i (by omega)
      obtain ⟨_, hlen, hcell⟩ := World.cells?_some h1
      obtain ⟨xs, n, _, _, _, hxl, hfl⟩ := DataW.trod_struct Try.underlying41 h2
      match xs, hxl, cs', hlen with
      | [y0, y1, y2, y3], _, [v0, v1, v2, v3], _ =>
        have g0 := hfl 0 _ rfl
        have g1 := hfl 1 _ rfl
        have g2 := hfl 2 _ rfl
        have g3 := hfl 3 _ rfl
        simp [cells3] at g0 g1 g2 g3
        obtain ⟨n0, e0, _, b0⟩ := DataW.trod_int Try.underlying3 g0
        obtain ⟨n1, e1, _, b1⟩ := DataW.trod_int Try.underlying3 g1
        obtain ⟨n2, e2, _, b2⟩ := DataW.trod_int Try.underlying3 g2
        obtain ⟨n3, e3, _, b3⟩ := DataW.trod_int Try.underlying3 g3
        simp at e0 e1 e2 e3
        have c0 := hcell 0 (by omega)
        have c1 := hcell 1 (by omega)
        have c2 := hcell 2 (by omega)
        have c3 := hcell 3 (by omega)
        rw [Go.Deep.add_add] at c0 c1 c2 c3
        simp [e0, e1, e2, e3] at c0 c1 c2 c3
        exact ⟨n0, n1, n2, n3, c0, c1, c2, c3, bounds_i64 b0, bounds_i64 b1, bounds_i64 b2, bounds_i64 b3⟩
    have hlen : len ≤ 4398046511104 := by
      rw [hx] at hz
      have := hz ((len + (m - len)) * 32) (by rw [DataW.weights]; simp [Try.underlying27, bytes41])
      unfold reachBytes at this
      omega
    refine ⟨some a, len, cap, rfl, hlen, some a, cap, rfl, fun hp => ?_⟩
    obtain ⟨k0, _, _, _, f0, _⟩ := each 0 hp
    have ha := plain_cell (a := a) (by simpa [Addr.add] using f0)
    obtain ⟨b, off, s⟩ := a
    obtain ⟨hs, hb⟩ := ha
    simp at hs hb
    subst hs
    refine ⟨b, off, rfl, hb, fun j hj => ?_⟩
    obtain ⟨x, y, z, u, f0, f1, f2, f3, r0, r1, r2, r3⟩ := each (j / 4) (by omega)
    simp only [add_plain, ← Nat.add_assoc] at f0 f1 f2 f3
    have hj4 : j % 4 = 0 ∨ j % 4 = 1 ∨ j % 4 = 2 ∨ j % 4 = 3 := by omega
    rcases hj4 with h | h | h | h
    · exact ⟨x, by rw [show off + j = off + j / 4 * 4 by omega]; exact f0, r0⟩
    · exact ⟨y, by rw [show off + j = off + j / 4 * 4 + 1 by omega]; exact f1, r1⟩
    · exact ⟨z, by rw [show off + j = off + j / 4 * 4 + 2 by omega]; exact f2, r2⟩
    · exact ⟨u, by rw [show off + j = off + j / 4 * 4 + 3 by omega]; exact f3, r3⟩
theorem script_of {H : Type} {enc : TypeId × Value → H} {W : World} {v : Value} {d : DataW H} {p : List MemPlace} (hsl : ∃ a len cap, v = .slice a len cap) (h : DataW.Trod enc Try.prog W 0 (fun _ => true) true 22 v d p) (hz : ∀ y ∈ d.weights Try.prog 22, y ≤ reachBytes) : ∃ n, n ≤ 9223372036854775807 ∧ Script W v n := by
  obtain ⟨a0, len, cap, rfl⟩ := hsl
  obtain ⟨fuel, hf⟩ := h
  rcases Go.Deep.open_slice Try.underlying22 hf with ⟨hcs, hx⟩ | ⟨a, len', cap', m, k, D, Pl, hcs, _, hl, hm, hmm, hx, hall⟩
  · simp [Value.cells] at hcs
    obtain ⟨rfl, rfl, rfl⟩ := hcs
    exact ⟨0, by omega, none, 0, rfl, fun h => by omega⟩
  · simp [Value.cells] at hcs
    obtain ⟨rfl, rfl, rfl⟩ := hcs
    simp at hmm
    rw [cells29] at hall
    have each : ∀ i, i < len → ∃ (k lo hi da db ln : Int) (ha : Option Addr) (hm hc : Nat),
        W.cell? (a.add (i * 7)) = some (.int .u8 k) ∧ W.cell? (a.add (i * 7 + 1)) = some (.int .i64 lo) ∧ W.cell? (a.add (i * 7 + 2)) = some (.int .i64 hi) ∧ W.cell? (a.add (i * 7 + 3)) = some (.slice ha hm hc) ∧
        W.cell? (a.add (i * 7 + 4)) = some (.int .i64 da) ∧ W.cell? (a.add (i * 7 + 5)) = some (.int .i64 db) ∧ W.cell? (a.add (i * 7 + 6)) = some (.int .i64 ln) ∧
        (0 ≤ k ∧ k ≤ 255) ∧ (-9223372036854775808 ≤ lo ∧ lo ≤ 9223372036854775807) ∧ (-9223372036854775808 ≤ hi ∧ hi ≤ 9223372036854775807) ∧ (-9223372036854775808 ≤ da ∧ da ≤ 9223372036854775807) ∧ (-9223372036854775808 ≤ db ∧ db ≤ 9223372036854775807) ∧ (-9223372036854775808 ≤ ln ∧ ln ≤ 9223372036854775807) ∧
        hm ≤ 4398046511104 ∧ Hk W (.slice ha hm hc) hm := fun i hi => by
      obtain ⟨cs', h1, h2⟩ := hall i (by omega)
      obtain ⟨_, hlen, hcell⟩ := World.cells?_some h1
      obtain ⟨xs, n, _, hxe, _, hxl, hfl⟩ := DataW.trod_struct Try.underlying29 h2
      match xs, hxl, cs', hlen with
      | [y0, y1, y2, y3, y4, y5, y6], _, [v0, v1, v2, v3, v4, v5, v6], _ =>
        have g0 := hfl 0 _ rfl
        have g1 := hfl 1 _ rfl
        have g2 := hfl 2 _ rfl
        have g3 := hfl 3 _ rfl
        have g4 := hfl 4 _ rfl
        have g5 := hfl 5 _ rfl
        have g6 := hfl 6 _ rfl
        simp [cells26, cells3, cells27] at g0 g1 g2 g3 g4 g5 g6
        obtain ⟨n0, e0, _, b0⟩ := DataW.trod_int Try.underlying26 g0
        obtain ⟨n1, e1, _, b1⟩ := DataW.trod_int Try.underlying3 g1
        obtain ⟨n2, e2, _, b2⟩ := DataW.trod_int Try.underlying3 g2
        obtain ⟨ha, hm, hc, e3, hm63, hk⟩ := hk_of g3 (fun y hy => by
          simp at hxe
          refine hz y ?_
          simp at hx
          rw [hx.1, DataW.weights]
          simp only [Try.underlying22]
          refine List.mem_cons_of_mem _ (List.mem_append_left _ (mem_all (d := D i) (List.mem_map.2 ⟨i, by simpa using hi, rfl⟩) ?_))
          rw [hxe.1, DataW.weights]
          simp only [Try.underlying29]
          simp [DataW.weightsEach, hy])
        obtain ⟨n4, e4, _, b4⟩ := DataW.trod_int Try.underlying3 g4
        obtain ⟨n5, e5, _, b5⟩ := DataW.trod_int Try.underlying3 g5
        obtain ⟨n6, e6, _, b6⟩ := DataW.trod_int Try.underlying3 g6
        subst e3
        simp at e0 e1 e2 e4 e5 e6
        have c0 := hcell 0 (by omega)
        have c1 := hcell 1 (by omega)
        have c2 := hcell 2 (by omega)
        have c3 := hcell 3 (by omega)
        have c4 := hcell 4 (by omega)
        have c5 := hcell 5 (by omega)
        have c6 := hcell 6 (by omega)
        rw [Go.Deep.add_add] at c0 c1 c2 c3 c4 c5 c6
        simp [e0, e1, e2, e4, e5, e6] at c0 c1 c2 c3 c4 c5 c6
        exact ⟨n0, n1, n2, n4, n5, n6, ha, hm, hc, c0, c1, c2, c3, c4, c5, c6, bounds_u8 b0, bounds_i64 b1, bounds_i64 b2, bounds_i64 b4, bounds_i64 b5, bounds_i64 b6, hm63, hk⟩
    refine ⟨len, by unfold maxLen at hm; omega, some a, cap, rfl, fun hp => ?_⟩
    obtain ⟨k0, _, _, _, _, _, _, _, _, f0, _⟩ := each 0 hp
    have ha := plain_cell (a := a) (by simpa [Addr.add] using f0)
    obtain ⟨b, off, s⟩ := a
    obtain ⟨hs, hb⟩ := ha
    simp at hs hb
    subst hs
    refine ⟨b, off, rfl, hb, fun i hi => ?_⟩
    obtain ⟨k, lo, hi, da, db, ln, ha, hm, hc, f0, f1, f2, f3, f4, f5, f6, hr⟩ := each i hi
    simp only [add_plain, ← Nat.add_assoc] at f0 f1 f2 f3 f4 f5 f6
    exact ⟨k, lo, hi, da, db, ln, ha, hm, hc, f0, f1, f2, f3, f4, f5, f6, hr⟩
end Go.Proofs.Qxb6500688a
