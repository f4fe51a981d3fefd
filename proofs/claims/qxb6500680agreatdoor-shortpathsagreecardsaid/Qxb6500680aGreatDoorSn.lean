import Derived.Test.Qxb6500680aGreatDoorSm
namespace Go.Proofs.Qxb6500680aGreatDoor
open Go.RowKit Go.BigFrame
set_option linter.unusedSimpArgs false
set_option linter.unusedSectionVars false
attribute [local go_sem] ext_cell_if ext_frozen_if alloc_cell_if alloc_frozen_if ext_size ext_ext
theorem abs64 (n : Int) (h0 : -9223372036854775808 ≤ n) (h1 : n ≤ 9223372036854775807) (w : World) : Calls Tryz.prog 96 #[.int .i64 n] w (Rt (.int .u64 (n.natAbs : Nat)) w) := by
  by_cases c : n < 0
  · have e : IntKind.u64.wrap (-IntKind.u64.wrap n) = ((n.natAbs : Nat) : Int) := by simp only [IntKind.wrap_u64]; omega
    obtain ⟨m, hm⟩ : ∃ m, n.natAbs = m := ⟨_, rfl⟩
    rw [hm] at e ⊢
    clear hm
    go_enter Tryz.func96, Tryz.ntmps96
    go_wp2_with (fail)
    go_ret
    exact ⟨rfl, Gr.of (by repeat (first | exact Gr.refl _ | refine Gr.alloc ?_ _ | refine Gr.ext ?_ _ | refine Gr.drew ?_))⟩
  · have e : IntKind.u64.wrap n = ((n.natAbs : Nat) : Int) := by simp only [IntKind.wrap_u64]; omega
    obtain ⟨m, hm⟩ : ∃ m, n.natAbs = m := ⟨_, rfl⟩
    rw [hm] at e ⊢
    clear hm
    go_enter Tryz.func96, Tryz.ntmps96
    go_wp2_with (fail)
    go_ret
    exact ⟨rfl, Gr.of (by repeat (first | exact Gr.refl _ | refine Gr.alloc ?_ _ | refine Gr.ext ?_ _ | refine Gr.drew ?_))⟩
/-- A significand's exponent and itself, as unpack tells them. -/
def uexp (F BI HB MB p : Nat) : Int := (if p / HB % (MB + 1) = 0 then 1 else ((p / HB % (MB + 1) : Nat) : Int)) - (BI : Int) - (F : Int)
def usig (HB MB p : Nat) : Nat := if p / HB % (MB + 1) = 0 then p % HB else HB + p % HB
section
variable {W E F BI SM MM PM HB FM EM QB MB : Nat} (k : Fk W E F BI SM MM PM HB FM EM QB MB)
include k
set_option maxRecDepth 100000 in
set_option maxHeartbeats 1000000 in
theorem Fk.unpack (p : Nat) (hp : U64 p) (w : World) : Calls Tryz.prog 92 #[(.agg #[.int .u64 W, .int .u64 E, .int .u64 F]), .int .u64 p] w (Rt (.agg #[.bool (sgn SM p), .int .i64 (uexp F BI HB MB p), .int .u64 (usig HB MB p : Nat)]) w) := by
  have C183 := hidden k.c183
  have C156 := hidden k.c156
  have C158 := hidden k.c158
  have C89 := hidden k.c89
  have C145 := hidden k.c145
  have hb2 := k.b2
  have hb4 := k.b4
  have hr6 := k.r6
  have eE : wrap64 (bits .and .u64 ((p : Int) / 2 ^ min F 64) MB) = ((p / HB % (MB + 1) : Nat) : Int) := by
    rw [k.sh, k.aB (p / HB) (Nat.lt_of_le_of_lt (Nat.div_le_self _ _) hp)]
    have h := Nat.mod_lt (p / HB) (show 0 < MB + 1 by omega)
    generalize p / HB % (MB + 1) = z at h
    unfold wrap64
    omega
  have eS := k.aF p hp
  have hfr := Nat.mod_lt p k.hp
  have hmb := Nat.mod_lt (p / HB) (show 0 < MB + 1 by omega)
  have eO := k.oH (p % HB) hfr
  have eg := k.sgn_ne p hp
  unfold uexp usig
  obtain ⟨B, hB⟩ : ∃ B, p / HB % (MB + 1) = B := ⟨_, rfl⟩
  obtain ⟨S, hS⟩ : ∃ S, p % HB = S := ⟨_, rfl⟩
  obtain ⟨g, hg⟩ : ∃ g, sgn SM p = g := ⟨_, rfl⟩
  rw [hB] at eE hmb ⊢
  rw [hS] at eS eO ⊢
  rw [hg] at eg ⊢
  have hbs : True := trivial
  clear hB hS hg hp k hfr
  by_cases hz : B = 0
  · subst hz
    simp only [if_true]
    obtain ⟨X, hX⟩ : ∃ X, (1 : Int) - (BI : Int) - (F : Int) = X := ⟨_, rfl⟩
    rw [hX]
    obtain ⟨X1, hX1⟩ : ∃ X1, wrap64 (1 - (BI : Int)) = X1 := ⟨_, rfl⟩
    have hX2 : wrap64 (X1 - (F : Int)) = X := by rw [← hX1, ← hX]; unfold wrap64; omega
    have hF1 : wrap64 (F : Int) = F := by unfold wrap64; omega
    clear hX hb2 hb4 hr6 hmb
    clear hbs
    obtain ⟨C, hC⟩ : ∃ C, w.heap.size = C := ⟨_, rfl⟩
    go_enter Tryz.func92, Tryz.ntmps92
    go_upto_region 1 with (fail)
    refine wp_region_ext (by kernel_rfl) (by kernel_rfl) ?_
    repeat (go_big_quiet_step ((go_at_call 183; first | with_reducible exact Calls_ext (C183.out _) | with_reducible exact Calls_ext2 (C183.out _))))
    refine wpQuiet_nil ?_
    rintro w1 ⟨x1, rfl⟩
    try simp only [eE]
    clear eE
    go_upto_if 20 with (go_at_call 156; (with_reducible refine (C156.out _).mono ?_); rintro _ _ ⟨rfl, x156, rfl⟩)
    try simp only [eS]
    go_upto_region 6 with (fail)
    try simp only [eO]
    refine wp_region_ext_tail 15 (by kernel_rfl) (by kernel_rfl) (by kernel_rfl) ?_
    simp only [List.take_succ_cons, List.take_zero, List.drop_succ_cons, List.drop_zero]
    repeat (go_big_quiet_step ((first | (go_at_call 89; first | with_reducible exact Calls_ext (C89.out _) | with_reducible exact Calls_ext2 (C89.out _)) | (go_at_call 145; first | with_reducible exact Calls_ext (C145.out _) | with_reducible exact Calls_ext2 (C145.out _)))))
    refine wpQuiet_nil ?_
    rintro w4 ⟨x4, rfl⟩
    go_wp2_with (fail)
    try simp only [eg]
    refine post_gen (fun Wx => Gr C w Wx ∧ Wx.heap[C + 1]? = some (.cells #[.bool g, .int .i64 X, .int .u64 ((S : Nat) : Int)] 57)) ⟨?_, ?_⟩ ?_
    · rw [← hC]
      exact ((((((Gr.refl w).alloc _).alloc _).ext _).setCell (by simp) _).setCell (by simp) _).setCell (by simp) _
    · have h0 := heap_new (w.alloc (.cells #[.int .u64 W, .int .u64 E, .int .u64 F] 35)) (.cells #[.bool false, .int .i64 0, .int .u64 0] 57)
      rw [show (w.alloc (.cells #[.int .u64 W, .int .u64 E, .int .u64 F] 35)).heap.size = C + 1 by simp [hC]] at h0
      have K := fun x => blk_set (blk_set (blk_set (blk_ext (x := x) h0) 0 (.bool g)) 1 (.int .i64 X)) 2 (.int .u64 ((S : Nat) : Int))
      refine (K _).trans ?_
      simp
    rintro Wf ⟨hGf, hF⟩
    have f0 := cell_of_cells hF 0
    have f1 := cell_of_cells hF 1
    have f2 := cell_of_cells hF 2
    simp at f0 f1 f2
    exact bodyPost_ret (v := .agg #[.bool g, .int .i64 X, .int .u64 ((S : Nat) : Int)]) (by simp [results, Tryz.results92, go_sem, f0, f1, f2]) rfl ⟨rfl, by rw [← hC] at hGf; exact hGf.of⟩
  · have hzb : ((B : Int) == 0) = false := by simp [hz]
    simp only [hz, if_false]
    obtain ⟨X, hX⟩ : ∃ X, ((B : Nat) : Int) - (BI : Int) - (F : Int) = X := ⟨_, rfl⟩
    rw [hX]
    obtain ⟨X1, hX1⟩ : ∃ X1, wrap64 ((B : Int) - (BI : Int)) = X1 := ⟨_, rfl⟩
    have hX2 : wrap64 (X1 - (F : Int)) = X := by rw [← hX1, ← hX]; unfold wrap64; omega
    have hF1 : wrap64 (F : Int) = F := by unfold wrap64; omega
    clear hX hb2 hb4 hr6 hmb hz
    clear hbs
    obtain ⟨C, hC⟩ : ∃ C, w.heap.size = C := ⟨_, rfl⟩
    go_enter Tryz.func92, Tryz.ntmps92
    go_upto_region 1 with (fail)
    refine wp_region_ext (by kernel_rfl) (by kernel_rfl) ?_
    repeat (go_big_quiet_step ((go_at_call 183; first | with_reducible exact Calls_ext (C183.out _) | with_reducible exact Calls_ext2 (C183.out _))))
    refine wpQuiet_nil ?_
    rintro w1 ⟨x1, rfl⟩
    try simp only [eE]
    clear eE
    go_upto_if 20 with (go_at_call 156; (with_reducible refine (C156.out _).mono ?_); rintro _ _ ⟨rfl, x156, rfl⟩)
    try simp only [eS]
    go_upto_region 6 with (go_at_call 158; (with_reducible refine (C158.out _).mono ?_); rintro _ _ ⟨rfl, x158, rfl⟩)
    try simp only [eO]
    refine wp_region_ext_tail 15 (by kernel_rfl) (by kernel_rfl) (by kernel_rfl) ?_
    simp only [List.take_succ_cons, List.take_zero, List.drop_succ_cons, List.drop_zero]
    repeat (go_big_quiet_step ((first | (go_at_call 89; first | with_reducible exact Calls_ext (C89.out _) | with_reducible exact Calls_ext2 (C89.out _)) | (go_at_call 145; first | with_reducible exact Calls_ext (C145.out _) | with_reducible exact Calls_ext2 (C145.out _)))))
    refine wpQuiet_nil ?_
    rintro w4 ⟨x4, rfl⟩
    go_wp2_with (fail)
    try simp only [eg]
    refine post_gen (fun Wx => Gr C w Wx ∧ Wx.heap[C + 1]? = some (.cells #[.bool g, .int .i64 X, .int .u64 ((HB + S : Nat) : Int)] 57)) ⟨?_, ?_⟩ ?_
    · rw [← hC]
      exact ((((((Gr.refl w).alloc _).alloc _).ext _).setCell (by simp) _).setCell (by simp) _).setCell (by simp) _
    · have h0 := heap_new (w.alloc (.cells #[.int .u64 W, .int .u64 E, .int .u64 F] 35)) (.cells #[.bool false, .int .i64 0, .int .u64 0] 57)
      rw [show (w.alloc (.cells #[.int .u64 W, .int .u64 E, .int .u64 F] 35)).heap.size = C + 1 by simp [hC]] at h0
      have K := fun x => blk_set (blk_set (blk_set (blk_ext (x := x) h0) 0 (.bool g)) 1 (.int .i64 X)) 2 (.int .u64 ((HB + S : Nat) : Int))
      refine (K _).trans ?_
      simp
    rintro Wf ⟨hGf, hF⟩
    have f0 := cell_of_cells hF 0
    have f1 := cell_of_cells hF 1
    have f2 := cell_of_cells hF 2
    simp at f0 f1 f2
    exact bodyPost_ret (v := .agg #[.bool g, .int .i64 X, .int .u64 ((HB + S : Nat) : Int)]) (by simp [results, Tryz.results92, go_sem, f0, f1, f2]) rfl ⟨rfl, by rw [← hC] at hGf; exact hGf.of⟩
end
end Go.Proofs.Qxb6500680aGreatDoor
