import Derived.Test.Qxb6500680aGreatDoorPb
namespace Go.Proofs.Qxb6500680aGreatDoor
open Go.RowKit Go.BigFrame
set_option linter.unusedSimpArgs false
attribute [local go_sem] ext_cell_if ext_frozen_if alloc_cell_if alloc_frozen_if ext_size ext_ext
/-- The script: n steps of seven cells. -/
def Scr (w : World) (v : Value) (n : Nat) : Prop :=
  ∃ a c, v = .slice a n c ∧ (0 < n → ∃ b off, a = some ⟨b, off, none⟩ ∧ b < w.heap.size ∧ ∀ i, i < n → ∃ (k W md : Int) (ch : Bool) (A B N : Int),
    w.cell? ⟨b, off + i * 7, none⟩ = some (.int .u8 k) ∧ w.cell? ⟨b, off + i * 7 + 1, none⟩ = some (.int .i64 W) ∧ w.cell? ⟨b, off + i * 7 + 2, none⟩ = some (.int .u8 md) ∧ w.cell? ⟨b, off + i * 7 + 3, none⟩ = some (.bool ch) ∧
    w.cell? ⟨b, off + i * 7 + 4, none⟩ = some (.int .u64 A) ∧ w.cell? ⟨b, off + i * 7 + 5, none⟩ = some (.int .u64 B) ∧ w.cell? ⟨b, off + i * 7 + 6, none⟩ = some (.int .i64 N) ∧
    InR .u8 k ∧ InR .u8 md ∧ InR .u64 A ∧ InR .u64 B ∧ InR .i64 N)
theorem small_any (a : Option Addr) (n c : Nat) (w : World) (hn : n ≤ 9223372036854775807) : Calls Tryz.prog 10 #[.slice a n c] w fun e w' => e = .returned (.bool (decide (n ≤ 65536))) ∧ w' = w := by
  go_enter Tryz.func10, Tryz.ntmps10
  by_cases h : n ≤ 65536
  all_goals
    go_wp2
    go_ret
    exact ⟨by simp [h], rfl⟩
/-- Seven cells laid at k. -/
def set7 (c : Array Value) (k : Nat) (v0 v1 v2 v3 v4 v5 v6 : Value) : Array Value := ((((((c.setIfInBounds k v0).setIfInBounds (k + 1) v1).setIfInBounds (k + 2) v2).setIfInBounds (k + 3) v3).setIfInBounds (k + 4) v4).setIfInBounds (k + 5) v5).setIfInBounds (k + 6) v6
theorem set7_size (c : Array Value) (k : Nat) (v0 v1 v2 v3 v4 v5 v6 : Value) : (set7 c k v0 v1 v2 v3 v4 v5 v6).size = c.size := by simp [set7]
theorem set7_in (c : Array Value) (k : Nat) (v0 v1 v2 v3 v4 v5 v6 : Value) (h : k + 7 ≤ c.size) : (set7 c k v0 v1 v2 v3 v4 v5 v6)[k]? = some v0 ∧ (set7 c k v0 v1 v2 v3 v4 v5 v6)[k + 1]? = some v1 ∧ (set7 c k v0 v1 v2 v3 v4 v5 v6)[k + 2]? = some v2 ∧ (set7 c k v0 v1 v2 v3 v4 v5 v6)[k + 3]? = some v3 ∧ (set7 c k v0 v1 v2 v3 v4 v5 v6)[k + 4]? = some v4 ∧ (set7 c k v0 v1 v2 v3 v4 v5 v6)[k + 5]? = some v5 ∧ (set7 c k v0 v1 v2 v3 v4 v5 v6)[k + 6]? = some v6 := by
  unfold set7
  refine ⟨?_, ?_, ?_, ?_, ?_, ?_, ?_⟩
  all_goals
    simp [Array.getElem?_setIfInBounds]
    try omega
theorem set7_out (c : Array Value) (k p : Nat) (v0 v1 v2 v3 v4 v5 v6 : Value) (h : p < k) : (set7 c k v0 v1 v2 v3 v4 v5 v6)[p]? = c[p]? := by
  unfold set7
  have e : ∀ j, k + j ≠ p := fun j => by omega
  have e0 : k ≠ p := by omega
  simp [Array.getElem?_setIfInBounds, e, e0]
/-- The step number i of a row. -/
def Opc (c : Array Value) (i : Nat) : Prop := ∃ (k : Nat) (W md : Int) (ch : Bool) (A B N : Int), c[i * 7]? = some (.int .u8 k) ∧ c[i * 7 + 1]? = some (.int .i64 W) ∧ c[i * 7 + 2]? = some (.int .u8 md) ∧ c[i * 7 + 3]? = some (.bool ch) ∧ c[i * 7 + 4]? = some (.int .u64 A) ∧ c[i * 7 + 5]? = some (.int .u64 B) ∧ c[i * 7 + 6]? = some (.int .i64 N) ∧
  k < 26 ∧ (W = 32 ∨ W = 64) ∧ InR .u8 md ∧ InR .u64 A ∧ InR .u64 B ∧ InR .i64 N
/-- What resolve answers. -/
def ResOK (n : Nat) (w : World) (e : Ending) (w' : World) : Prop := ∃ ob c, e = .returned (.slice (some ⟨ob, 0, none⟩) n n) ∧ w'.heap[ob]? = some (.cells c 29) ∧ (∀ i, i < n → Opc c i) ∧ Gr w.heap.size w w'
theorem Tryz.info29 : (Tryz.prog.info? 29).map (fun i => (i.zero, i.size, i.bytes)) = some (some (.agg #[.int .u8 0, .int .i64 0, .int .u8 0, .bool false, .int .u64 0, .int .u64 0, .int .i64 0]), 7, 48) := by kernel_rfl
theorem Tryz.under22 : Tryz.prog.underlying 22 = some (.slice 29) := by kernel_rfl
theorem make29 (n : Nat) (hn : n ≤ 65536) (w : World) : ∃ c : Array Value, c.size = n * 7 ∧ (Instr.makeSlice 22 (.int .i64 (n : Int)) (.int .i64 (n : Int))).run Tryz.prog w = .ok (.slice (some ⟨w.heap.size, 0, none⟩) n n) (w.alloc (.cells c 29)) := by
  obtain ⟨i0, hi, hz0, hz1, hz2⟩ := info_parts Tryz.info29
  have := run_make (P := Tryz.prog) w 22 29 i0 _ Tryz.under22 hi hz0 .i64 .i64 (n : Int) (n : Int) (by omega) (by omega) (by rw [hz2]; omega) (by omega)
  refine ⟨_, ?_, this⟩
  rw [size_madeCells, hz1]
  simp
end Go.Proofs.Qxb6500680aGreatDoor
