import Derived.Test.Qxb6500680aGreatDoorApp
import Derived.Lib.BufferRead
namespace Go.Proofs.Qxb6500680aGreatDoor
open Go.RowKit Go.BigFrame
open Go.Lib (byteCells byteCells_append strCells_eq)
set_option linter.unusedSimpArgs false
attribute [local go_sem] ext_cell_if ext_frozen_if alloc_cell_if alloc_frozen_if ext_size ext_ext
theorem Tryz.underlying5 : Tryz.prog.underlying 5 = some (.int .u8) := by kernel_rfl
theorem own_string {w : World} {B n : Nat} {v : Value} {l : List UInt8} (h : w.ownsRow B 5 1 v n (byteCells l)) : (convert 47 9 v).run Tryz.prog w = .ok (.string ⟨l.toArray⟩) w := by
  obtain ⟨hlen, h⟩ := h
  have hl : l.length = n := by simpa [byteCells] using hlen
  rcases h with ⟨rfl, rfl⟩ | ⟨g, cap, cur, rfl, hbg, hc, hn, hm, hs, ht⟩
  · have e : l = [] := List.eq_nil_of_length_eq_zero hl
    subst e
    exact Go.Lib.run_convert_nil_bytes w 47 9 5 0 Tryz.underlying47 Tryz.underlying5 Tryz.underlying9
  · subst hl
    refine run_convert_bytes_back w 47 9 5 ⟨g, 0, none⟩ cap l Tryz.underlying47 Tryz.underlying5 Tryz.underlying9 fun j hj => ?_
    have e1 : cur[j]? = some (.int .u8 (l[j].toNat : Int)) := by
      have h1 : (cur.toList.take (l.length * 1))[j]? = (byteCells l)[j]? := by rw [ht]
      simp [hj, byteCells] at h1
      simpa using h1
    have e2 := cell_of_cells hc j
    rw [e1] at e2
    rw [← e2]
    congr 1
    simp only [Addr.add, Nat.zero_add]
    split <;> simp_all
/-- make([]byte, 0, 24). -/
theorem make24 (w : World) : (Instr.makeSlice 47 (.int .i64 0) (.int .i64 24)).run Tryz.prog w = .ok (.slice (some ⟨w.heap.size, 0, none⟩) 0 24) (w.alloc (.cells (madeCells #[.int .u8 0] 24) 5)) := by
  obtain ⟨i0, hi, hz0, hz1, hz2⟩ := info_parts Tryz.info5
  have := run_make (P := Tryz.prog) w 47 5 i0 (.int .u8 0) Tryz.underlying47 hi hz0 .i64 .i64 0 24 (by decide) (by decide) (by rw [hz2]; decide) (by decide)
  rw [hz1] at this
  exact this
theorem made24 (w : World) (B : Nat) (hB : B ≤ w.heap.size) : Row B w.heap.size (w.alloc (.cells (madeCells #[.int .u8 0] 24) 5)) 0 24 [] := World.ownsRow_made w _ 24 hB (by decide) (size_madeCells _ _)
attribute [local go_sem] make24
/-- A call that answers a text. -/
def TextOK (w : World) (e : Ending) (w' : World) : Prop := ∃ s : ByteArray, e = .returned (.string s) ∧ s.size ≤ 100 ∧ ∃ x, w' = ext w x
set_option maxRecDepth 100000 in
theorem text_any {W E F : Nat} {MM FM EM HB BI EI XI : Int} {H PD : Nat} (fc : Fc W E F MM FM EM HB BI EI XI H PD) (p : Nat) (w : World)
    (htab : Lib.TabIs Tryz.prog w "internal/strconv.uint64pow10" .u64 Lib.pow10Tab) : Calls Tryz.prog 16 #[.agg #[.int .u64 W, .int .u64 E, .int .u64 F], .int .u64 p] w (TextOK w) := by
  have HT := hidden (Lib.tabBelow_of_tabIs htab)
  clear htab
  go_enter Tryz.func16, Tryz.ntmps16
  go_upto_region 1 with (fail)
  have A : Hid (Calls Tryz.prog 82 #[.agg #[.int .u64 W, .int .u64 E, .int .u64 F], .slice (some ⟨w.heap.size + 1, 0, none⟩) 0 24, .int .u64 p] ((w.alloc (.cells #[.int .u64 W, .int .u64 E, .int .u64 F] 35)).alloc (.cells (madeCells #[.int .u8 0] 24) 5)).drew (AppOK w.heap.size ((w.alloc (.cells #[.int .u64 W, .int .u64 E, .int .u64 F] 35)).alloc (.cells (madeCells #[.int .u8 0] 24) 5)).drew)) := hidden (by
    have g1 : Gr w.heap.size w (w.alloc (.cells #[.int .u64 W, .int .u64 E, .int .u64 F] 35)) := (Gr.refl w).alloc _
    have r1 := (made24 _ w.heap.size g1.2).grow (w' := ((w.alloc (.cells #[.int .u64 W, .int .u64 E, .int .u64 F] 35)).alloc (.cells (madeCells #[.int .u8 0] 24) 5)).drew) ⟨rfl, rfl, rfl, Nat.le_refl _, fun _ _ _ => rfl⟩
    have := appendText_any fc w.heap.size _ p _ [] r1 ((g1.alloc _).drew).2 (HT.out.on ((g1.alloc _).drew).1)
    simpa using this)
  clear fc HT
  go_region_with (go_at_call 82; (with_reducible refine A.out.mono ?_); rintro _ w3 ⟨v, n, l, rfl, ho, hn, hg⟩; have hcv := own_string ho; have hln : Hid (l.length ≤ 100) := hidden (by have := ho.1; simp [byteCells] at this; omega); have HG := hidden hg; clear ho hn hg)
  all_goals
    go_wp2_with (fail)
    go_ret
    exact ⟨_, rfl, by have := hln.out; simpa [ByteArray.size] using this, Gr.of ((Gr.step (by repeat (first | exact Gr.refl _ | refine Gr.alloc ?_ _ | refine Gr.ext ?_ _ | refine Gr.drew ?_)) HG.out (Nat.le_refl _)))⟩
end Go.Proofs.Qxb6500680aGreatDoor
