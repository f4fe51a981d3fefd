import Derived.Test.Qxb6500680aGreatDoorSc
import Derived.ProofKit
import Derived.Deep.Slices
import Derived.Deep.Strs
import Derived.OpenShut
import Derived.SizedLaws
import Derived.LaidMore
import Derived.Lib.LaidTab
namespace Go.Proofs.Qxb6500680aGreatDoor
open Go.ChangeShapes Go.WideShapes Go.ChangeAt Go.WideMaps Go.WideElems Go.RowKit Go.Deep
theorem own : ownKnob Tryz.prog.godebug = none := by kernel_rfl
theorem laidOut : laidOutB Tryz.prog = true := by kernel_rfl
theorem cells29 : Tryz.prog.cellsOf 29 = 7 := by kernel_rfl
theorem cells25 : Tryz.prog.cellsOf 25 = 1 := by kernel_rfl
theorem cells26 : Tryz.prog.cellsOf 26 = 1 := by kernel_rfl
theorem cells27 : Tryz.prog.cellsOf 27 = 1 := by kernel_rfl
theorem cells2 : Tryz.prog.cellsOf 2 = 1 := by kernel_rfl
theorem cells3 : Tryz.prog.cellsOf 3 = 1 := by kernel_rfl
theorem cells4 : Tryz.prog.cellsOf 4 = 1 := by kernel_rfl
theorem plain_cell {w : World} {a : Addr} {v : Value} (h : w.cell? a = some v) : a = ⟨a.block, a.off, none⟩ ∧ a.block < w.heap.size := by
  obtain ⟨b, o, s⟩ := a
  unfold World.cell? at h
  simp only at h
  split at h
  · rename_i c t m hb
    cases s with
    | none => exact ⟨rfl, (Array.getElem?_eq_some_iff.1 hb).1⟩
    | some _ => simp at h
  · cases h
theorem in_of_wf {k : IntKind} {n : Int} (h : (Lit.int k n).wf = true) : InR k n := by
  simpa [Lit.wf, InR] using h
set_option maxRecDepth 100000 in
theorem scr_of {H : Type} {enc : TypeId × Value → H} {W : World} {v : Value} {d : DataW H} {p : List MemPlace} (hsl : ∃ a len cap, v = .slice a len cap) (h : DataW.Trod enc Tryz.prog W 0 (fun _ => true) true 22 v d p) : ∃ n, n ≤ 9223372036854775807 ∧ Scr W v n := by
  obtain ⟨a0, len, cap, rfl⟩ := hsl
  obtain ⟨fuel, hf⟩ := h
  rcases Go.Deep.open_slice Tryz.underlying22 hf with ⟨hcs, hx⟩ | ⟨a, len', cap', m, k, D, Pl, hcs, _, hl, hm, hmm, hx, hall⟩
  · simp [Value.cells] at hcs
    obtain ⟨rfl, rfl, rfl⟩ := hcs
    exact ⟨0, by omega, none, 0, rfl, fun h => by omega⟩
  · simp [Value.cells] at hcs
    obtain ⟨rfl, rfl, rfl⟩ := hcs
    simp at hmm
    rw [cells29] at hall
    have each : ∀ i, i < len → ∃ (k W' md : Int) (ch : Bool) (A B N : Int),
        W.cell? (a.add (i * 7)) = some (.int .u8 k) ∧ W.cell? (a.add (i * 7 + 1)) = some (.int .i64 W') ∧ W.cell? (a.add (i * 7 + 2)) = some (.int .u8 md) ∧ W.cell? (a.add (i * 7 + 3)) = some (.bool ch) ∧
        W.cell? (a.add (i * 7 + 4)) = some (.int .u64 A) ∧ W.cell? (a.add (i * 7 + 5)) = some (.int .u64 B) ∧ W.cell? (a.add (i * 7 + 6)) = some (.int .i64 N) ∧
        InR .u8 k ∧ InR .u8 md ∧ InR .u64 A ∧ InR .u64 B ∧ InR .i64 N := fun i hi => by
      obtain ⟨cs', h1, h2⟩ := hall i (by omega)
      obtain ⟨_, hlen, hcell⟩ := World.cells?_some h1
      obtain ⟨xs, n, _, hxe, _, hxl, hfl⟩ := DataW.trod_struct Tryz.underlying29 h2
      match xs, hxl, cs', hlen with
      | [y0, y1, y2, y3, y4, y5, y6], _, [v0, v1, v2, v3, v4, v5, v6], _ =>
        have g0 := hfl 0 _ rfl
        have g1 := hfl 1 _ rfl
        have g2 := hfl 2 _ rfl
        have g3 := hfl 3 _ rfl
        have g4 := hfl 4 _ rfl
        have g5 := hfl 5 _ rfl
        have g6 := hfl 6 _ rfl
        simp [cells25, cells26, cells3, cells27, cells2, cells4] at g0 g1 g2 g3 g4 g5 g6
        obtain ⟨n0, e0, _, b0⟩ := DataW.trod_int Tryz.underlying25 g0
        obtain ⟨n1, e1, _, b1⟩ := DataW.trod_int Tryz.underlying3 g1
        obtain ⟨n2, e2, _, b2⟩ := DataW.trod_int Tryz.underlying26 g2
        obtain ⟨n3, e3, _⟩ := DataW.trod_bool Tryz.underlying4 g3
        obtain ⟨n4, e4, _, b4⟩ := DataW.trod_int Tryz.underlying27 g4
        obtain ⟨n5, e5, _, b5⟩ := DataW.trod_int Tryz.underlying27 g5
        obtain ⟨n6, e6, _, b6⟩ := DataW.trod_int Tryz.underlying2 g6
        simp at e0 e1 e2 e3 e4 e5 e6
        have c0 := hcell 0 (by omega)
        have c1 := hcell 1 (by omega)
        have c2 := hcell 2 (by omega)
        have c3 := hcell 3 (by omega)
        have c4 := hcell 4 (by omega)
        have c5 := hcell 5 (by omega)
        have c6 := hcell 6 (by omega)
        rw [Go.Deep.add_add] at c0 c1 c2 c3 c4 c5 c6
        simp [e0, e1, e2, e3, e4, e5, e6] at c0 c1 c2 c3 c4 c5 c6
        exact ⟨n0, n1, n2, n3, n4, n5, n6, c0, c1, c2, c3, c4, c5, c6, in_of_wf b0, in_of_wf b2, in_of_wf b4, in_of_wf b5, in_of_wf b6⟩
    refine ⟨len, by unfold maxLen at hm; omega, some a, cap, rfl, fun hp => ?_⟩
    obtain ⟨k0, _, _, _, _, _, _, f0, _⟩ := each 0 hp
    have ha := plain_cell (a := a) (by simpa [Addr.add] using f0)
    obtain ⟨b, off, s⟩ := a
    obtain ⟨hs, hb⟩ := ha
    simp at hs hb
    subst hs
    refine ⟨b, off, rfl, hb, fun i hi => ?_⟩
    obtain ⟨k, W', md, ch, A, B, N, f0, f1, f2, f3, f4, f5, f6, hr⟩ := each i hi
    simp only [add_plain, ← Nat.add_assoc] at f0 f1 f2 f3 f4 f5 f6
    exact ⟨k, W', md, ch, A, B, N, f0, f1, f2, f3, f4, f5, f6, hr⟩
end Go.Proofs.Qxb6500680aGreatDoor
