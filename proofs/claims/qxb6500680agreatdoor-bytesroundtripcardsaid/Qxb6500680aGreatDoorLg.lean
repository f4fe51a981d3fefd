import Derived.Test.Qxb6500680aGreatDoorLf
namespace Go.Proofs.Qxb6500680aGreatDoor
open Go.RowKit Go.BigFrame
open Go.Lib (byteCells byteCells_append strCells_eq)
set_option linter.unusedSimpArgs false
attribute [local go_sem] ext_cell_if ext_frozen_if alloc_cell_if alloc_frozen_if ext_size ext_ext
theorem fbytes_any (W K : Nat) (hW : Wk W K) (E F : Int) (w : World) : Calls Tryz.prog 23 #[.agg #[.int .u64 W, .int .u64 E, .int .u64 F]] w fun e w' => e = .returned (.int .i64 K) ∧ ∃ x, w' = ext w x := by
  have hK8 : K ≤ 8 := by rcases hW with ⟨_, rfl⟩ | ⟨_, rfl⟩ <;> decide
  have hK : ((W : Int).tdiv 8) = (K : Int) ∧ W ≤ 64 := by
    rcases hW with ⟨rfl, rfl⟩ | ⟨rfl, rfl⟩ <;> decide
  obtain ⟨hK, hW64⟩ := hK
  go_enter Tryz.func23, Tryz.ntmps23
  go_wp2
  go_ret
  exact ⟨rfl, Gr.of ((Gr.refl _).alloc _)⟩
/-- The bytes bs lie from ⟨g, off⟩ on. -/
def Rb (w : World) (g off : Nat) (bs : List UInt8) : Prop := g < w.heap.size ∧ ∀ (j : Nat) (b : UInt8), bs[j]? = some b → w.cell? ⟨g, off + j, none⟩ = some (.int .u8 (b.toNat : Int))
theorem Rb.gr {w w' : World} {g off : Nat} {bs : List UInt8} (h : Rb w g off bs) {B : Nat} (hg : Below B w w') (hB : g < B) : Rb w' g off bs := ⟨Nat.lt_of_lt_of_le h.1 hg.size, fun j b hb => (hg.cell (p := ⟨g, off + j, none⟩) hB).trans (h.2 j b hb)⟩
theorem spell_lt : ∀ l : List UInt8, spell l < 256 ^ l.length
  | [] => by simp [spell]
  | b :: r => by
    have h1 := spell_lt r
    have h2 := b.toNat_lt
    simp only [spell, List.length_cons, Nat.pow_succ]
    omega
theorem loadLE_short (W K : Nat) (hW : Wk W K) (E F : Int) (g off L cap : Nat) (hL : L < K) (w : World) : Calls Tryz.prog 25 #[.agg #[.int .u64 W, .int .u64 E, .int .u64 F], .slice (some ⟨g, off, none⟩) L cap] w fun e w' => e = .returned (.tuple #[.int .u64 0, .bool false]) ∧ ∃ x, w' = ext w x := by
  have hK8 : K ≤ 8 := by rcases hW with ⟨_, rfl⟩ | ⟨_, rfl⟩ <;> decide
  have C23 := hidden (fbytes_any W K hW E F)
  clear hW
  go_enter Tryz.func25, Tryz.ntmps25
  go_wp2_with (go_at_call 23; (with_reducible refine (C23.out _).mono ?_); rintro _ _ ⟨rfl, x1, rfl⟩)
  go_ret2
  exact ⟨rfl, Gr.of (((Gr.refl _).alloc _).ext _)⟩
set_option maxRecDepth 100000 in
set_option maxHeartbeats 1000000 in
theorem loadLE_full (W K : Nat) (hW : Wk W K) (E F : Int) (g off cap : Nat) (bs : List UInt8) (hL : K ≤ bs.length) (hL2 : bs.length ≤ 2000000) (w : World) (hb : Rb w g off bs) : Calls Tryz.prog 25 #[.agg #[.int .u64 W, .int .u64 E, .int .u64 F], .slice (some ⟨g, off, none⟩) bs.length cap] w fun e w' => e = .returned (.tuple #[.int .u64 (spell (bs.take K)), .bool true]) ∧ ∃ x, w' = ext w x := by
  have hK8 : K ≤ 8 := by rcases hW with ⟨_, rfl⟩ | ⟨_, rfl⟩ <;> decide
  have C23 := hidden (fbytes_any W K hW E F)
  have HB := hidden hb
  clear hW hb
  obtain ⟨L, hLe⟩ : ∃ L, L = bs.length := ⟨_, rfl⟩
  rw [← hLe] at hL hL2
  simp only [← hLe]
  have HLE := hidden hLe
  clear hLe
  go_enter Tryz.func25, Tryz.ntmps25
  go_upto_region 4 with (go_at_call 23; (with_reducible refine (C23.out _).mono ?_); rintro _ _ ⟨rfl, x1, rfl⟩)
  refine wp_gen (fun w1 => Rb w1 g off bs ∧ Gr w.heap.size w w1) ⟨HB.out.gr (((Gr.refl w).alloc _).ext _).1 HB.out.1, ((Gr.refl w).alloc _).ext _⟩ ?_
  rintro w1 ⟨hb1, hg⟩
  have HB1 := hidden hb1
  have HG1 := hidden hg
  clear hb1 hg
  go_wp2_with (fail)
  go_loopw [4, 7] (fun s4 s7 wi => ∃ j : Nat, j ≤ K ∧ s4 = .int .u64 (spell ((bs.take K).drop j) : Nat) ∧ s7 = .int .i64 ((j : Int) - 1) ∧ wi = w1) (fun _ s7 _ => (intOf s7 + 1).toNat)
  case atStart => exact ⟨K, by omega, by rw [List.drop_eq_nil_of_le (by simp; omega)]; rfl, rfl, rfl⟩
  case round =>
    obtain ⟨j, hj, rfl, rfl, rfl⟩ := hrel
    rcases j with _ | j
    · go_wp2_with (fail)
      go_ret2
      exact ⟨by simp, Gr.of HG1.out⟩
    · obtain ⟨b, hbj⟩ : ∃ b, bs[j]? = some b := ⟨bs[j]'(by have := HLE.out; omega), by simp⟩
      have kc := HB1.out.2 j b hbj
      have hgl := HB1.out.1
      have hbt := b.toNat_lt
      have es : spell ((bs.take K).drop j) = b.toNat + 256 * spell ((bs.take K).drop (j + 1)) := by
        have hd : (bs.take K).drop j = b :: (bs.take K).drop (j + 1) := by
          rw [List.drop_eq_getElem_cons (by have := HLE.out; simp; omega)]
          congr 1
          have : (bs.take K)[j]? = some b := by rw [List.getElem?_take_of_lt (by omega)]; exact hbj
          exact Option.some.inj ((List.getElem?_eq_getElem _).symm.trans this)
        rw [hd]; rfl
      obtain ⟨S, hS⟩ : ∃ S, spell ((bs.take K).drop (j + 1)) = S := ⟨_, rfl⟩
      have hSb : S < 72057594037927936 := by
        have h1 := spell_lt ((bs.take K).drop (j + 1))
        rw [hS] at h1
        have h2 : ((bs.take K).drop (j + 1)).length ≤ 7 := by simp; omega
        have h3 := Nat.pow_le_pow_right (show 0 < 256 by decide) h2
        have h4 : (256 : Nat) ^ 7 = 72057594037927936 := by decide
        omega
      have ho := or_low 8 S b.toNat (by omega) (by omega)
      have ES := hidden es
      have HO := hidden ho
      have HSB := hidden hSb
      rw [hS]
      clear es ho hSb
      go_upto_region 6 with (fail)
      have ho' : bits .or .u64 (IntKind.u64.wrap ((S : Int) * 256)) (b.toNat : Int) = ((b.toNat + 256 * S : Nat) : Int) := by
        have h1 := HO.out
        have h2 := HSB.out
        rw [show IntKind.u64.wrap ((S : Int) * 256) = ((2 ^ 8 * S : Nat) : Int) by rw [IntKind.wrap_u64]; omega, h1]
        omega
      simp only [ho']
      go_wp2_with (fail)
      refine ⟨⟨j, by omega, ?_, ?_, trivial⟩, by simp [intOf]⟩
      · have h1 := ES.out
        rw [hS] at h1
        rw [h1]
      · congr 1
end Go.Proofs.Qxb6500680aGreatDoor
