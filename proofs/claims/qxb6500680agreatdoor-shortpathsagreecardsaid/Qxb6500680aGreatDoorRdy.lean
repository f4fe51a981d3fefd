import Derived.Test.Qxb6500680aGreatDoorFold
namespace Go.Proofs.Qxb6500680aGreatDoor
open Go.RowKit Go.BigFrame
set_option linter.unusedSimpArgs false
attribute [local go_sem] ext_cell_if ext_frozen_if alloc_cell_if alloc_frozen_if ext_size ext_ext
/-- What a step has answered. -/
def ResV (v : Value) : Prop := ∃ (P Wd I F S C O : Int) (T : ByteArray) (Fd : Bool), v = .agg #[.int .u64 P, .int .i64 Wd, .int .i64 I, .int .u8 F, .int .u8 S, .int .u8 C, .int .i8 O, .string T, .bool Fd] ∧ InR .u64 P
set_option maxRecDepth 100000 in
set_option maxHeartbeats 4000000 in
theorem ready_any (k W md : Int) (ch : Bool) (A B N : Int) (hk : InR .u8 k) (hm : InR .u8 md) (hA : InR .u64 A) (hB : InR .u64 B) (hN : InR .i64 N) (pv : Value) (hp : ResV pv) (w : World) : Calls Tryz.prog 65 #[.agg #[.int .u8 k, .int .i64 W, .int .u8 md, .bool ch, .int .u64 A, .int .u64 B, .int .i64 N], pv] w (FoldOK w) := by
  obtain ⟨P, Wd, I, F, S, C, O, T, Fd, rfl, hP⟩ := hp
  have FO := hidden (fun w => fold_any k W md ch A B N hk hm hA hB hN w)
  have HP := hidden hP
  clear hk hm hA hB hN hP
  go_enter Tryz.func65, Tryz.ntmps65
  go_upto_region 2 with (go_at_call 177; (with_reducible refine (FO.out _).mono ?_); rintro _ _ ⟨v, rfl, ⟨k', W', md', ch', A', B', N', rfl, h1, h2, h3, h4, h5, h6⟩, x1, rfl⟩)
  obtain ⟨pb, hpb⟩ : ∃ pb, pb = w.heap.size + 1 := ⟨_, rfl⟩
  obtain ⟨rv, hrv⟩ : ∃ rv, rv = pb + 1 := ⟨_, rfl⟩
  obtain ⟨tb, htb⟩ : ∃ tb, tb = rv + 1 + (x1 0).fst.size := ⟨_, rfl⟩
  refine wp_gen (fun w1 => w1.heap[pb]? = some (.cells #[.int .u64 P, .int .i64 Wd, .int .i64 I, .int .u8 F, .int .u8 S, .int .u8 C, .int .i8 O, .string T, .bool Fd] 108) ∧ w1.heap[rv]? = some (.cells #[.int .u8 0, .int .i64 0, .int .u8 0, .bool false, .int .u64 0, .int .u64 0, .int .i64 0] 29) ∧ w1.heap[tb]? = some (.cells #[.int .u8 k', .int .i64 W', .int .u8 md', .bool ch', .int .u64 A', .int .u64 B', .int .i64 N'] 29) ∧ Gr w.heap.size w w1) ?_ ?_
  · have g : Gr w.heap.size w (((w.alloc (.cells #[.int .u8 k, .int .i64 W, .int .u8 md, .bool ch, .int .u64 A, .int .u64 B, .int .i64 N] 29)).alloc (.cells #[.int .u64 P, .int .i64 Wd, .int .i64 I, .int .u8 F, .int .u8 S, .int .u8 C, .int .i8 O, .string T, .bool Fd] 108)).alloc (.cells #[.int .u8 0, .int .i64 0, .int .u8 0, .bool false, .int .u64 0, .int .u64 0, .int .i64 0] 29)) := (((Gr.refl w).alloc _).alloc _).alloc _
    have e1 : (w.alloc (.cells #[.int .u8 k, .int .i64 W, .int .u8 md, .bool ch, .int .u64 A, .int .u64 B, .int .i64 N] 29)).heap.size = w.heap.size + 1 := by simp
    have e2 : ((w.alloc (.cells #[.int .u8 k, .int .i64 W, .int .u8 md, .bool ch, .int .u64 A, .int .u64 B, .int .i64 N] 29)).alloc (.cells #[.int .u64 P, .int .i64 Wd, .int .i64 I, .int .u8 F, .int .u8 S, .int .u8 C, .int .i8 O, .string T, .bool Fd] 108)).heap.size = w.heap.size + 1 + 1 := by simp
    refine ⟨?_, ?_, ?_, (g.ext _).alloc _⟩
    · rw [hpb, ← e1]
      exact blk_alloc (blk_ext (blk_alloc (heap_new _ _)))
    · rw [hrv, hpb, ← e2]
      exact blk_alloc (blk_ext (heap_new _ _))
    · have e3 : (ext (((w.alloc (.cells #[.int .u8 k, .int .i64 W, .int .u8 md, .bool ch, .int .u64 A, .int .u64 B, .int .i64 N] 29)).alloc (.cells #[.int .u64 P, .int .i64 Wd, .int .i64 I, .int .u8 F, .int .u8 S, .int .u8 C, .int .i8 O, .string T, .bool Fd] 108)).alloc (.cells #[.int .u8 0, .int .i64 0, .int .u8 0, .bool false, .int .u64 0, .int .u64 0, .int .i64 0] 29)) x1).heap.size = w.heap.size + 1 + 1 + 1 + (x1 0).fst.size := by rw [ext_size]; simp
      rw [htb, hrv, hpb, ← e3]
      exact heap_new _ _
  have l1 : w.heap.size < rv := by omega
  have l2 : w.heap.size < tb := by omega
  have n1 : rv ≠ tb := by omega
  simp only [← htb, ← hrv, ← hpb]
  rintro w1 ⟨b1, b2, b3, hg⟩
  clear hpb hrv htb
  have HG := hidden hg
  have a0 : w1.cell? ⟨pb, 0, none⟩ = some (.int .u64 P) := cell_of_cells b1 0
  have a1 : w1.cell? ⟨pb, 1, none⟩ = some (.int .i64 Wd) := cell_of_cells b1 1
  have t0 : w1.cell? ⟨tb, 0, none⟩ = some (.int .u8 k') := cell_of_cells b3 0
  have t1 : w1.cell? ⟨tb, 1, none⟩ = some (.int .i64 W') := cell_of_cells b3 1
  have t2 : w1.cell? ⟨tb, 2, none⟩ = some (.int .u8 md') := cell_of_cells b3 2
  have t3 : w1.cell? ⟨tb, 3, none⟩ = some (.bool ch') := cell_of_cells b3 3
  have t4 : w1.cell? ⟨tb, 4, none⟩ = some (.int .u64 A') := cell_of_cells b3 4
  have t5 : w1.cell? ⟨tb, 5, none⟩ = some (.int .u64 B') := cell_of_cells b3 5
  have t6 : w1.cell? ⟨tb, 6, none⟩ = some (.int .i64 N') := cell_of_cells b3 6
  have r0 : w1.cell? ⟨rv, 0, none⟩ = some (.int .u8 0) := cell_of_cells b2 0
  have mr0 := mark_of_cells b2 0
  have r1 : w1.cell? ⟨rv, 1, none⟩ = some (.int .i64 0) := cell_of_cells b2 1
  have mr1 := mark_of_cells b2 1
  have r2 : w1.cell? ⟨rv, 2, none⟩ = some (.int .u8 0) := cell_of_cells b2 2
  have mr2 := mark_of_cells b2 2
  have r3 : w1.cell? ⟨rv, 3, none⟩ = some (.bool false) := cell_of_cells b2 3
  have mr3 := mark_of_cells b2 3
  have r4 : w1.cell? ⟨rv, 4, none⟩ = some (.int .u64 0) := cell_of_cells b2 4
  have mr4 := mark_of_cells b2 4
  have r5 : w1.cell? ⟨rv, 5, none⟩ = some (.int .u64 0) := cell_of_cells b2 5
  have mr5 := mark_of_cells b2 5
  have r6 : w1.cell? ⟨rv, 6, none⟩ = some (.int .i64 0) := cell_of_cells b2 6
  have mr6 := mark_of_cells b2 6
  have mt := mark_of_cells b3 4
  have hrl : ∀ j, w.heap.size ≤ (⟨rv, j, none⟩ : Addr).block := fun j => Nat.le_of_lt l1
  have htl : w.heap.size ≤ (⟨tb, 4, none⟩ : Addr).block := Nat.le_of_lt l2
  have hrl := hidden hrl
  have htl := hidden htl
  clear b1 b2 b3 hg
  have fin : Hid (∀ (A2 : Int) (w' : World), InR .u64 A2 → Gr w.heap.size w w' → FoldOK w (.returned (.agg #[.int .u8 k', .int .i64 W', .int .u8 md', .bool ch', .int .u64 A2, .int .u64 B', .int .i64 N'])) w') := hidden (fun A2 w' h7 h8 => ⟨_, rfl, ⟨k', W', md', ch', A2, B', N', rfl, h1, h2, h3, h7, h5, h6⟩, Gr.of h8⟩)
  have HA := hidden h4
  clear h1 h2 h3 h4 h5 h6
  obtain ⟨z, hz⟩ : ∃ z, (Wd == W') = z := ⟨_, rfl⟩
  cases ch'
  · go_wp2_with (fail)
    exact bodyPost_ret (v := .agg #[.int .u8 k', .int .i64 W', .int .u8 md', .bool false, .int .u64 A', .int .u64 B', .int .i64 N']) (by simp [results, Tryz.results65, go_sem, ↓IntWalk.iteOmega, r0, r1, r2, r3, r4, r5, r6]) rfl (fin.out A' _ HA.out (((((((HG.out.setCell (hrl.out 0) _).setCell (hrl.out 1) _).setCell (hrl.out 2) _).setCell (hrl.out 3) _).setCell (hrl.out 4) _).setCell (hrl.out 5) _).setCell (hrl.out 6) _))
  · cases z
    · go_wp2_with (fail)
      exact bodyPost_ret (v := .agg #[.int .u8 k', .int .i64 W', .int .u8 md', .bool true, .int .u64 A', .int .u64 B', .int .i64 N']) (by simp [results, Tryz.results65, go_sem, ↓IntWalk.iteOmega, r0, r1, r2, r3, r4, r5, r6]) rfl (fin.out A' _ HA.out (((((((HG.out.setCell (hrl.out 0) _).setCell (hrl.out 1) _).setCell (hrl.out 2) _).setCell (hrl.out 3) _).setCell (hrl.out 4) _).setCell (hrl.out 5) _).setCell (hrl.out 6) _))
    · go_wp2_with (fail)
      exact bodyPost_ret (v := .agg #[.int .u8 k', .int .i64 W', .int .u8 md', .bool true, .int .u64 P, .int .u64 B', .int .i64 N']) (by simp [results, Tryz.results65, go_sem, ↓IntWalk.iteOmega, r0, r1, r2, r3, r4, r5, r6]) rfl (fin.out P _ HP.out ((((((((HG.out.setCell htl.out _).setCell (hrl.out 0) _).setCell (hrl.out 1) _).setCell (hrl.out 2) _).setCell (hrl.out 3) _).setCell (hrl.out 4) _).setCell (hrl.out 5) _).setCell (hrl.out 6) _))
end Go.Proofs.Qxb6500680aGreatDoor
