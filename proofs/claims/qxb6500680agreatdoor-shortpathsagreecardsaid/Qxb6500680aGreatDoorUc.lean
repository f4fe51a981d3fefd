import Derived.Test.Qxb6500680aGreatDoorUb
import Derived.Test.Qxb6500680aGreatDoorLa5
namespace Go.Proofs.Qxb6500680aGreatDoor
open Go.RowKit Go.BigFrame
set_option linter.unusedSimpArgs false
set_option linter.unusedSectionVars false
attribute [local go_sem] ext_cell_if ext_frozen_if alloc_cell_if alloc_frozen_if ext_size ext_ext calmOp calmAt
abbrev Tab (w : World) : Prop := Lib.TabIs Tryz.prog w "internal/strconv.uint64pow10" .u64 Lib.pow10Tab
set_option maxRecDepth 100000 in
theorem s119 (a : Nat) (ha : (a : Int) < 4294967296) : ∃ s : ByteArray, (∀ w, Tab w → Calls Tryz.prog 16 #[.agg #[.int .u64 32, .int .u64 8, .int .u64 23], .int .u64 a] w (fun e w' => Rt (.string s) w e w' ∧ s.size ≤ 100)) ∧ (∀ w, Glob w → Tab w → Calls Tryz.prog 119 #[.int .u32 a] w (fun e w' => Rt (.string s) w e w' ∧ s.size ≤ 100)) ∧ (s.size ≤ 100 → ∀ w, Glob w → Calls Tryz.prog 120 #[.string s] w (Rt (.tuple #[.int .u32 a, .nilIface]) w)) := by
  obtain ⟨s, hs0, h1, h2⟩ := tf32.text a (by omega)
  have g1 : ∀ w, Tab w → Calls Tryz.prog 16 #[.agg #[.int .u64 32, .int .u64 8, .int .u64 23], .int .u64 a] w (fun e w' => Rt (.string s) w e w' ∧ s.size ≤ 100) := fun w ht => (h1 w ht).mono fun _ _ h => h
  have C17 : Hid (s.size ≤ 100 → ∀ w, Calls Tryz.prog 17 #[.agg #[.int .u64 32, .int .u64 8, .int .u64 23], .string s] w (Rt (.tuple #[.int .u64 a, .nilIface]) w)) := hidden fun hs w => (h2 hs w).mono fun _ _ h => h
  have C16 := hidden g1
  clear h1 h2 hs0
  refine ⟨s, g1, fun w hg ht => ?_, fun hs w hg => ?_⟩
  · obtain ⟨a0, a1, a2, b0, b1, b2⟩ := hg
    clear g1 b0 b1 b2
    have HT := hidden ht
    clear ht
    go_enter Tryz.func119, Tryz.ntmps119
    go_wp2_with (go_at_call 16; (with_reducible refine (C16.out _ HT.out).mono ?_); rintro _ _ ⟨⟨rfl, x16, rfl⟩, hsz⟩)
    go_ret
    exact ⟨⟨by simp, Gr.of (by repeat (first | exact Gr.refl _ | refine Gr.alloc ?_ _ | refine Gr.ext ?_ _ | refine Gr.drew ?_))⟩, hsz⟩
  · obtain ⟨a0, a1, a2, b0, b1, b2⟩ := hg
    have C17 := hidden (C17.out hs)
    have hw : IntKind.u32.wrap (a : Int) = (a : Int) := by rw [IntKind.wrap_u32]; omega
    clear g1 b0 b1 b2 ha hs
    go_enter Tryz.func120, Tryz.ntmps120
    go_wp2_with (go_at_call 17; (with_reducible refine (C17.out _).mono ?_); rintro _ _ ⟨rfl, x17, rfl⟩)
    go_ret2
    exact ⟨by simp [hw], Gr.of (by repeat (first | exact Gr.refl _ | refine Gr.alloc ?_ _ | refine Gr.ext ?_ _ | refine Gr.drew ?_))⟩
set_option maxRecDepth 100000 in
theorem s139 (a : Nat) (ha : (a : Int) < 18446744073709551616) : ∃ s : ByteArray, (∀ w, Tab w → Calls Tryz.prog 16 #[.agg #[.int .u64 64, .int .u64 11, .int .u64 52], .int .u64 a] w (fun e w' => Rt (.string s) w e w' ∧ s.size ≤ 100)) ∧ (∀ w, Glob w → Tab w → Calls Tryz.prog 139 #[.int .u64 a] w (fun e w' => Rt (.string s) w e w' ∧ s.size ≤ 100)) ∧ (s.size ≤ 100 → ∀ w, Glob w → Calls Tryz.prog 140 #[.string s] w (Rt (.tuple #[.int .u64 a, .nilIface]) w)) := by
  obtain ⟨s, hs0, h1, h2⟩ := tf64.text a (by omega)
  have g1 : ∀ w, Tab w → Calls Tryz.prog 16 #[.agg #[.int .u64 64, .int .u64 11, .int .u64 52], .int .u64 a] w (fun e w' => Rt (.string s) w e w' ∧ s.size ≤ 100) := fun w ht => (h1 w ht).mono fun _ _ h => h
  have C17 : Hid (s.size ≤ 100 → ∀ w, Calls Tryz.prog 17 #[.agg #[.int .u64 64, .int .u64 11, .int .u64 52], .string s] w (Rt (.tuple #[.int .u64 a, .nilIface]) w)) := hidden fun hs w => (h2 hs w).mono fun _ _ h => h
  have C16 := hidden g1
  clear h1 h2 hs0
  refine ⟨s, g1, fun w hg ht => ?_, fun hs w hg => ?_⟩
  · obtain ⟨a0, a1, a2, b0, b1, b2⟩ := hg
    clear g1 a0 a1 a2
    have HT := hidden ht
    clear ht
    go_enter Tryz.func139, Tryz.ntmps139
    go_wp2_with (go_at_call 16; (with_reducible refine (C16.out _ HT.out).mono ?_); rintro _ _ ⟨⟨rfl, x16, rfl⟩, hsz⟩)
    go_ret
    exact ⟨⟨by simp, Gr.of (by repeat (first | exact Gr.refl _ | refine Gr.alloc ?_ _ | refine Gr.ext ?_ _ | refine Gr.drew ?_))⟩, hsz⟩
  · obtain ⟨a0, a1, a2, b0, b1, b2⟩ := hg
    have C17 := hidden (C17.out hs)
    clear g1 a0 a1 a2 ha hs
    go_enter Tryz.func140, Tryz.ntmps140
    go_wp2_with (go_at_call 17; (with_reducible refine (C17.out _).mono ?_); rintro _ _ ⟨rfl, x17, rfl⟩)
    go_ret2
    exact ⟨by simp, Gr.of (by repeat (first | exact Gr.refl _ | refine Gr.alloc ?_ _ | refine Gr.ext ?_ _ | refine Gr.drew ?_))⟩
end Go.Proofs.Qxb6500680aGreatDoor
