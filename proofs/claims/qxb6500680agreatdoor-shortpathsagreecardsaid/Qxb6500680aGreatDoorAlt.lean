import Derived.Test.Qxb6500680aGreatDoorPt
namespace Go.Proofs.Qxb6500680aGreatDoor
open Go.RowKit Go.BigFrame
set_option linter.unusedSimpArgs false
attribute [local go_sem] ext_cell_if ext_frozen_if alloc_cell_if alloc_frozen_if ext_size ext_ext
theorem conv_bytes (w : World) (s : ByteArray) : (convert 9 47 (.string s)).run Tryz.prog w = .ok (.slice (some ⟨w.heap.size, 0, none⟩) s.size (grownCap w s.size 0 5))
      (w.drew.alloc (.cells (bytesRow s (grownCap w s.size 0 5)) 5 ((bytesRow s (grownCap w s.size 0 5)).size, (bytesRow s (grownCap w s.size 0 5)).size + 1))) := run_bytes_of_string w 9 47 5 s Tryz.underlying9 Tryz.underlying47 Tryz.underlying5
attribute [local go_sem] conv_bytes
/-- A row whose first cells are the bytes l, open to writes. -/
def By (rb : Nat) (l : List UInt8) (w : World) : Prop := ∀ j (hj : j < l.length), w.cell? ⟨rb, j, none⟩ = some (.int .u8 (l[j].toNat : Int)) ∧ w.frozen? ⟨rb, j, none⟩ = false
theorem By.row {rb cap n : Nat} {s : ByteArray} {w : World} (h : w.heap[rb]? = some (.cells (bytesRow s cap) 5 (n, n + 1))) (hn : s.size ≤ n) : By rb s.data.toList w := fun j hj => by
  have hj' : j < s.data.size := by simpa using hj
  have hj2 : j < n := Nat.lt_of_lt_of_le hj' hn
  constructor
  · have e : (bytesRow s cap)[j]? = some (.int .u8 (s.data[j].toNat : Int)) := by
      unfold bytesRow
      rw [Array.getElem?_append_left (by simpa using hj'), Array.getElem?_map, Array.getElem?_eq_getElem hj']
      rfl
    simp only [World.cell?, h]
    simpa using e
  · simp [World.frozen?, h]
    omega
theorem By.set {rb : Nat} {l : List UInt8} {w : World} (h : By rb l w) (q : Nat) (z : UInt8) (hq : q < l.length) : By rb (l.set q z) (w.setCell ⟨rb, q, none⟩ (.int .u8 (z.toNat : Int))) := fun j hj => by
  have hj' : j < l.length := by simpa using hj
  obtain ⟨h1, h2⟩ := h j hj'
  obtain ⟨h3, h4⟩ := h q hq
  by_cases e : j = q
  · subst e
    refine ⟨?_, ?_⟩
    · rw [World.cell?_setCell_same _ _ _ h3]
      simp
    · rw [← h2]
      exact World.frozen?_setCell _ _ _ _
  · refine ⟨?_, ?_⟩
    · rw [World.cell?_setCell_other (a := ⟨rb, q, none⟩) (b := ⟨rb, j, none⟩) (h := by simp; try omega), h1]
      simp [List.getElem_set, Ne.symm e]
    · rw [← h2]
      exact World.frozen?_setCell _ _ _ _
theorem By.string {rb n cap : Nat} {l : List UInt8} {w : World} (h : By rb l w) (hl : l.length = n) : (convert 47 9 (.slice (some ⟨rb, 0, none⟩) n cap)).run Tryz.prog w = .ok (.string ⟨l.toArray⟩) w := by
  subst hl
  refine run_convert_bytes_back w 47 9 5 ⟨rb, 0, none⟩ cap l Tryz.underlying47 Tryz.underlying5 Tryz.underlying9 fun j hj => ?_
  rw [← (h j hj).1]
  congr 1
  simp only [Addr.add, Nat.zero_add]
  split <;> simp_all
set_option maxRecDepth 100000 in
theorem alter_any (s : ByteArray) (hs : s.size ≤ 100) (k wd md : Int) (ch : Bool) (A B N : Int) (w : World) : Calls Tryz.prog 18 #[.string s, .agg #[.int .u8 k, .int .i64 wd, .int .u8 md, .bool ch, .int .u64 A, .int .u64 B, .int .i64 N]] w (TextOK w) := by
  obtain ⟨ob, hob⟩ : ∃ ob, ob = w.heap.size := ⟨_, rfl⟩
  obtain ⟨rb, hrb⟩ : ∃ rb, rb = ob + 1 := ⟨_, rfl⟩
  go_enter Tryz.func18, Tryz.ntmps18
  go_upto_region 2 with (fail)
  generalize grownCap (w.alloc (.cells #[.int .u8 k, .int .i64 wd, .int .u8 md, .bool ch, .int .u64 A, .int .u64 B, .int .i64 N] 29)) s.size 0 5 = cap
  refine wp_gen (fun w1 => (w1.cell? ⟨ob, 5, none⟩ = some (.int .u64 B) ∧ w1.cell? ⟨ob, 6, none⟩ = some (.int .i64 N)) ∧ By rb s.data.toList w1 ∧ Gr w.heap.size w w1 ∧ rb < w1.heap.size) ?_ ?_
  · have g1 : Gr w.heap.size w (w.alloc (.cells #[.int .u8 k, .int .i64 wd, .int .u8 md, .bool ch, .int .u64 A, .int .u64 B, .int .i64 N] 29)) := (Gr.refl w).alloc _
    subst hob
    have e : w.heap.size + 1 = (w.alloc (.cells #[.int .u8 k, .int .i64 wd, .int .u8 md, .bool ch, .int .u64 A, .int .u64 B, .int .i64 N] 29)).heap.size := by simp
    have hb : ∀ (o2 : Obj), (((w.alloc (.cells #[.int .u8 k, .int .i64 wd, .int .u8 md, .bool ch, .int .u64 A, .int .u64 B, .int .i64 N] 29)).alloc o2).drew).heap[w.heap.size]? = some (.cells #[.int .u8 k, .int .i64 wd, .int .u8 md, .bool ch, .int .u64 A, .int .u64 B, .int .i64 N] 29) := fun o2 => blk_alloc (heap_new _ _)
    refine ⟨⟨cell_of_cells (hb _) 5, cell_of_cells (hb _) 6⟩, ?_, (g1.alloc _).drew, ?_⟩
    · refine By.row (cap := cap) (n := (bytesRow s cap).size) ?_ (by unfold bytesRow; rw [Array.size_append, Array.size_map]; exact Nat.le_add_right _ _)
      rw [hrb, e]
      exact heap_new _ _
    · rw [hrb, e]
      exact lt_of_cells (heap_new (w.alloc (.cells #[.int .u8 k, .int .i64 wd, .int .u8 md, .bool ch, .int .u64 A, .int .u64 B, .int .i64 N] 29)) _)
  simp only [← hob, ← hrb]
  rintro w1 ⟨⟨k5, k6⟩, hby, hg, hrl⟩
  have HB := hidden hby
  have HG := hidden hg
  have hobl : Hid (ob = w.heap.size) := hidden hob
  have hrbl : Hid (rb = ob + 1) := hidden hrb
  clear hby hg hob hrb
  go_upto_if 21 with (fail)
  obtain ⟨q, hQ, hq⟩ : ∃ q : Nat, wrap64 ((IntKind.u64.wrap N).tmod ((s.size : Int) + 1)) = q ∧ q ≤ s.size := by
    have h1 := wr_bd N
    have h2 := Int.tmod_lt_of_pos (IntKind.u64.wrap N) (b := (s.size : Int) + 1) (by omega)
    have h3 := Int.tmod_nonneg ((s.size : Int) + 1) h1.1
    exact ⟨((IntKind.u64.wrap N).tmod ((s.size : Int) + 1)).toNat, by unfold wrap64; omega, by omega⟩
  simp only [hQ]
  clear hQ
  have hl : s.data.toList.length = s.size := by simp
  by_cases c1 : q < s.size
  · obtain ⟨z, hz⟩ : ∃ z : UInt8, IntKind.u8.wrap B = (z.toNat : Int) := by
      have h : 0 ≤ IntKind.u8.wrap B ∧ IntKind.u8.wrap B < 256 := by rw [IntKind.wrap_u8]; omega
      refine ⟨UInt8.ofNat (IntKind.u8.wrap B).toNat, ?_⟩
      simp
      omega
    have hs2 := HB.out.set q z (by omega)
    have hcv := hs2.string (n := s.size) (cap := cap) (by simp)
    obtain ⟨kq, mq⟩ := HB.out q (by omega)
    have kq' : Hid (w1.cell? ⟨rb, q, none⟩ = some (.int .u8 (s.data.toList[q].toNat : Int))) := hidden kq
    clear hs2
    go_wp2_with (fail)
    have hG := HG.out
    have h1 := hobl.out
    have h2 := hrbl.out
    rw [h1] at hG
    go_ret
    exact ⟨_, rfl, by show ((s.data.toList.set q z).toArray).size ≤ 100; rw [List.size_toArray, List.length_set]; omega, Gr.of (hG.setCell (by simp; omega) _)⟩
  · have hcv := HB.out.string (n := s.size) (cap := cap) hl
    go_wp2_with (fail)
    go_ret
    have hG := HG.out
    rw [hobl.out] at hG
    exact ⟨_, rfl, by show (s.data.toList.toArray).size ≤ 100; rw [List.size_toArray]; omega, Gr.of hG⟩
end Go.Proofs.Qxb6500680aGreatDoor
