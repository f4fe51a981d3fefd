import Derived.Test.Qxb6500679aResid
namespace Go.Proofs.Qxb6500679a
open Go.RowKit Go.BigFrame
set_option linter.unusedSimpArgs false
attribute [local go_sem] ext_cell_if ext_frozen_if alloc_cell_if alloc_frozen_if ext_size ext_ext
set_option maxHeartbeats 1000000 in
theorem within_any (ba ca ea : Option Addr) (bn bc cn cc en ec : Nat) (sh mo : Int) (w : World) (hb : bn ≤ bc) (h5 : bn ≤ 5000) :
    Calls Try.prog 6 #[.agg #[.slice ba bn bc, .slice ca cn cc, .int .u64 sh, .slice ea en ec, .int .i64 mo]] w fun e w' => e = .returned (.slice ba (min bn 4096) bc) ∧ ∃ x, w' = ext w x := by
  obtain ⟨m, hm⟩ : ∃ m, min bn 4096 = m := ⟨_, rfl⟩
  have hm1 : min (bn : Int) 4096 = (m : Int) := by omega
  have hm2 : m ≤ bn := by omega
  rw [hm]
  clear hm
  go_enter Try.func6, Try.ntmps6
  go_wp2
  go_ret
  exact ⟨rfl, Gr.of (by repeat (first | exact Gr.refl _ | refine Gr.alloc ?_ _))⟩
set_option maxHeartbeats 1000000 in
theorem predictor_any (ba ca ea : Option Addr) (bn bc cn cc en ec : Nat) (sh mo : Int) (w : World) :
    Calls Try.prog 9 #[.agg #[.slice ba bn bc, .slice ca cn cc, .int .u64 sh, .slice ea en ec, .int .i64 mo]] w fun e w' => e = .returned (.agg #[.int .u64 sh, .slice ca cn cc]) ∧ ∃ x, w' = ext w x := by
  go_enter Try.func9, Try.ntmps9
  go_wp2
  exact bodyPost_ret (v := .agg #[.int .u64 sh, .slice ca cn cc]) (by simp [results, Try.results9, go_sem, ↓IntWalk.iteOmega]) rfl ⟨rfl, Gr.of (by repeat (first | exact Gr.refl _ | refine Gr.alloc ?_ _ | refine Gr.ext ?_ _ | refine Gr.drew ?_ | refine Gr.setCell ?_ (by simp) _))⟩
set_option maxHeartbeats 1000000 in
theorem order_any (ca : Option Addr) (cn cc : Nat) (sh : Int) (w : World) :
    Calls Try.prog 12 #[.agg #[.int .u64 sh, .slice ca cn cc]] w fun e w' => e = .returned (.int .i64 cn) ∧ ∃ x, w' = ext w x := by
  go_enter Try.func12, Try.ntmps12
  go_wp2
  go_ret
  exact ⟨rfl, Gr.of (by repeat (first | exact Gr.refl _ | refine Gr.alloc ?_ _))⟩
theorem len_any (X : Int) (w : World) (h0 : 0 ≤ X) (h1 : X ≤ 18446744073709551615) : Calls Try.prog 32 #[.int .u64 X] w fun e w' => ∃ L : Nat, L ≤ 64 ∧ e = .returned (.int .i64 L) ∧ w' = w :=
  (Go.Proofs.Try.bits_Len64 X w h0 h1).mono (by
    rintro e w' ⟨rfl, rfl⟩
    exact ⟨_, Lib.bitLen_le _ 64 (by decide) (by omega), rfl, rfl⟩)
theorem u64_bd (z : Int) : 0 ≤ IntKind.u64.wrap z ∧ IntKind.u64.wrap z ≤ 18446744073709551615 := by rw [IntKind.wrap_u64]; omega
set_option maxHeartbeats 400000 in
theorem log2q8_any (x : Int) (w : World) :
    Calls Try.prog 33 #[.int .i64 x] w fun e w' => ∃ y : Int, e = .returned (.int .i64 y) ∧ (-9223372036854775808 ≤ y ∧ y ≤ 9223372036854775807) ∧ w' = w := by
  obtain ⟨X, hX⟩ : ∃ X : Int, IntKind.u64.wrap x = X := ⟨_, rfl⟩
  obtain ⟨hX0, hX1⟩ := u64_bd x
  rw [hX] at hX0 hX1
  have HL := hidden (len_any X w hX0 hX1)
  go_enter Try.func33, Try.ntmps33
  go_wp2_with (go_at_call 32; refine HL.out.mono ?_; rintro e w' ⟨L, hL, rfl, rfl⟩; obtain ⟨q, hq⟩ : ∃ q : Nat, (64 : Int) - ((L : Int) - 1) = (q : Int) := ⟨65 - L, by omega⟩)
  go_ret
  exact ⟨_, rfl, by first | exact i64_bd _ | exact wrap64_bd _, rfl⟩
end Go.Proofs.Qxb6500679a
