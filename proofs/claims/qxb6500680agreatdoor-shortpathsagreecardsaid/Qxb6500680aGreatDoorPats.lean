import Derived.Test.Qxb6500680aGreatDoorPlay
import Derived.Test.Qxb6500680aGreatDoorRes
import Derived.Test.Qxb6500680aGreatDoorSplit
import Derived.Test.Qxb6500680aGreatDoorCls
namespace Go.Proofs.Qxb6500680aGreatDoor
open Go.RowKit Go.BigFrame
set_option linter.unusedSimpArgs false
attribute [local go_sem] ext_cell_if ext_frozen_if alloc_cell_if alloc_frozen_if ext_size ext_ext
theorem patMask32 (w : World) : Calls Tryz.prog 20 #[.agg #[.int .u64 32, .int .u64 8, .int .u64 23]] w fun e w' => e = .returned (.int .u64 4294967295) ∧ ∃ x, w' = ext w x := by
  have e1 : bits .or .u64 2147483648 2147483647 = 4294967295 := by decide +kernel
  go_enter Tryz.func20, Tryz.ntmps20
  go_upto_region 1 with (fail)
  refine wp_region_ext (by kernel_rfl) (by kernel_rfl) ?_
  repeat (go_big_quiet_step ((first | (go_at_call 89; first | with_reducible exact Calls_ext (signMask32 _) | with_reducible exact Calls_ext2 (signMask32 _)) | (go_at_call 90; first | with_reducible exact Calls_ext (magMask32 _) | with_reducible exact Calls_ext2 (magMask32 _)))))
  refine wpQuiet_nil ?_
  rintro w1 ⟨x1, rfl⟩
  go_wp2_with (fail)
  go_ret
  exact ⟨rfl, Gr.of (by repeat (first | exact Gr.refl _ | refine Gr.alloc ?_ _ | refine Gr.ext ?_ _ | refine Gr.drew ?_))⟩
theorem patMask64 (w : World) : Calls Tryz.prog 20 #[.agg #[.int .u64 64, .int .u64 11, .int .u64 52]] w fun e w' => e = .returned (.int .u64 18446744073709551615) ∧ ∃ x, w' = ext w x := by
  have e1 : bits .or .u64 9223372036854775808 9223372036854775807 = 18446744073709551615 := by decide +kernel
  go_enter Tryz.func20, Tryz.ntmps20
  go_upto_region 1 with (fail)
  refine wp_region_ext (by kernel_rfl) (by kernel_rfl) ?_
  repeat (go_big_quiet_step ((first | (go_at_call 89; first | with_reducible exact Calls_ext (signMask64 _) | with_reducible exact Calls_ext2 (signMask64 _)) | (go_at_call 90; first | with_reducible exact Calls_ext (magMask64 _) | with_reducible exact Calls_ext2 (magMask64 _)))))
  refine wpQuiet_nil ?_
  rintro w1 ⟨x1, rfl⟩
  go_wp2_with (fail)
  go_ret
  exact ⟨rfl, Gr.of (by repeat (first | exact Gr.refl _ | refine Gr.alloc ?_ _ | refine Gr.ext ?_ _ | refine Gr.drew ?_))⟩
/-- A pattern of a width. -/
def PatR (W p : Int) : Prop := (W = 32 ∧ 0 ≤ p ∧ p < 4294967296) ∨ (W = 64 ∧ 0 ≤ p ∧ p < 18446744073709551616)
theorem and32 (p : Int) (h : InR .u64 p) : 0 ≤ bits .and .u64 p 4294967295 ∧ bits .and .u64 p 4294967295 < 4294967296 := by
  have hr := u64r h
  obtain ⟨n, rfl⟩ := Int.eq_ofNat_of_zero_le hr.1
  have h2 := and_low 32 (by decide) n (by omega)
  rw [show (4294967295 : Int) = ((2 ^ 32 - 1 : Nat) : Int) by decide, h2]
  have := Nat.mod_lt n (show 0 < 2 ^ 32 by decide)
  omega
theorem and64 (p : Int) : 0 ≤ bits .and .u64 p 18446744073709551615 ∧ bits .and .u64 p 18446744073709551615 < 18446744073709551616 := by
  have := u64r (bits_in .and p 18446744073709551615)
  omega
def PatsOK (W : Int) (w : World) (e : Ending) (w' : World) : Prop := ∃ p q : Int, e = .returned (.agg #[.int .u64 p, .int .u64 q]) ∧ PatR W p ∧ PatR W q ∧ ∃ x, w' = ext w x
set_option maxRecDepth 100000 in
set_option maxHeartbeats 2000000 in
theorem patterns_any (k W md : Int) (ch : Bool) (A B N : Int) (hW : W = 32 ∨ W = 64) (hA : InR .u64 A) (hB : InR .u64 B) (w : World) (g : Glob w) : Calls Tryz.prog 12 #[.agg #[.int .u8 k, .int .i64 W, .int .u8 md, .bool ch, .int .u64 A, .int .u64 B, .int .i64 N]] w (PatsOK W w) := by
  obtain ⟨E, F, M, hF, hM, h1, h2⟩ : ∃ E F M : Int, Fm W E F ∧ (∀ w, Calls Tryz.prog 20 #[.agg #[.int .u64 W, .int .u64 E, .int .u64 F]] w fun e w' => e = .returned (.int .u64 M) ∧ ∃ x, w' = ext w x) ∧ PatR W (bits .and .u64 A M) ∧ PatR W (bits .and .u64 B M) := by
    rcases hW with rfl | rfl
    · exact ⟨8, 23, 4294967295, .inl ⟨rfl, rfl, rfl⟩, patMask32, .inl ⟨rfl, and32 A hA⟩, .inl ⟨rfl, and32 B hB⟩⟩
    · exact ⟨11, 52, 18446744073709551615, .inr ⟨rfl, rfl, rfl⟩, patMask64, .inr ⟨rfl, and64 A⟩, .inr ⟨rfl, and64 B⟩⟩
  have FMT := hidden (fun (w1 : World) (gr : Gr w.heap.size w w1) => format_any hF w1 (g.gr gr))
  have MSK := hidden hM
  have H1 := hidden h1
  have H2 := hidden h2
  clear hM h1 h2 hF hW hA hB g
  go_enter Tryz.func12, Tryz.ntmps12
  go_wp2_with (first | (go_at_call 15; (with_reducible refine (FMT.out _ (by repeat (first | exact Gr.refl _ | refine Gr.alloc ?_ _ | refine Gr.ext ?_ _ | refine Gr.drew ?_))).mono ?_); rintro _ _ ⟨rfl, x1, rfl⟩) | (go_at_call 20; (with_reducible refine (MSK.out _).mono ?_); rintro _ _ ⟨rfl, x2, rfl⟩))
  exact bodyPost_ret (v := .agg #[.int .u64 (bits .and .u64 A M), .int .u64 (bits .and .u64 B M)]) (by simp [results, Tryz.results12, go_sem, ↓IntWalk.iteOmega]) rfl ⟨_, _, rfl, H1.out, H2.out, Gr.of (by repeat (first | exact Gr.refl _ | refine Gr.alloc ?_ _ | refine Gr.ext ?_ _ | refine Gr.drew ?_ | refine Gr.setCell ?_ (by simp) _))⟩
theorem sj_any (W p : Int) (h : PatR W p) (w : World) (g : Glob w) : Calls Tryz.prog 13 #[.int .i64 W, .int .u64 p] w fun r w' => r = .returned (.bool true) ∧ ∃ x, w' = ext w x := by
  rcases h with ⟨rfl, h0, h1⟩ | ⟨rfl, h0, h1⟩
  · obtain ⟨neg, q, s, e, f, hp⟩ := pat32_of p h0 h1
    exact splitJoinHolds32 p neg q s e f hp w g
  · obtain ⟨neg, q, s, e, f, hp⟩ := pat64_of p h0 h1
    exact splitJoinHolds64 p neg q s e f hp w g
theorem cl_any (W p : Int) (h : PatR W p) (w : World) (g : Glob w) : Calls Tryz.prog 14 #[.int .i64 W, .int .u64 p] w fun r w' => r = .returned (.bool true) ∧ ∃ x, w' = ext w x := by
  rcases h with ⟨rfl, h0, h1⟩ | ⟨rfl, h0, h1⟩
  · obtain ⟨neg, q, s, e, f, hp⟩ := pat32_of p h0 h1
    obtain ⟨c, hc⟩ := clsEF_of 255 e f (by decide) hp.e0 hp.e1 hp.f0
    exact classHolds32 p neg q s e f hp c hc w g
  · obtain ⟨neg, q, s, e, f, hp⟩ := pat64_of p h0 h1
    obtain ⟨c, hc⟩ := clsEF_of 2047 e f (by decide) hp.e0 hp.e1 hp.f0
    exact classHolds64 p neg q s e f hp c hc w g
end Go.Proofs.Qxb6500680aGreatDoor
