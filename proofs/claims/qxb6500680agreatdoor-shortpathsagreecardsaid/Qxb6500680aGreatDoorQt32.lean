import Derived.Test.Qxb6500680aGreatDoorQuo
import Derived.Test.Qxb6500680aGreatDoorFloat
import Derived.Test.Qxb6500680aGreatDoorTailc
namespace Go.Proofs.Qxb6500680aGreatDoor
open Go.RowKit Go.BigFrame
set_option linter.unusedSimpArgs false
attribute [local go_sem] ext_cell_if ext_frozen_if alloc_cell_if alloc_frozen_if ext_size ext_ext calmOp calmAt
set_option maxRecDepth 100000 in
set_option maxHeartbeats 1000000 in
theorem quoTrunc32 (p q n : Nat) (hp : p ≤ 18446744073709551615) (hq : q ≤ 18446744073709551615) (hn : n ≤ 63) (w : World) : Calls Tryz.prog 144 #[(.agg #[.int .u64 32, .int .u64 8, .int .u64 23]), .int .u64 p, .int .u64 q, .int .u64 n] w (QuoOK w) := by
  have ep : bits .and .u64 (p : Int) 2147483647 = ((p % 2147483648 : Nat) : Int) := by
    have h := and_low 31 (by decide) p (by omega)
    rw [show (2147483647 : Int) = ((2 ^ 31 - 1 : Nat) : Int) by decide, h, show (2 : Nat) ^ 31 = 2147483648 by decide]
  have eq : bits .and .u64 (q : Int) 2147483647 = ((q % 2147483648 : Nat) : Int) := by
    have h := and_low 31 (by decide) q (by omega)
    rw [show (2147483647 : Int) = ((2 ^ 31 - 1 : Nat) : Int) by decide, h, show (2 : Nat) ^ 31 = 2147483648 by decide]
  obtain ⟨b1, x1, s1, hx1, hs1, hz1, U1⟩ := unpack32 p hp
  obtain ⟨x3, s3, hx3, hs3, hz3, A1⟩ := leftAlign_any b1 x1 s1 hs1
  obtain ⟨b2, x2, s2, hx2, hs2, hz2, U2⟩ := unpack32 q hq
  obtain ⟨x4, s4, hx4, hs4, hz4, A2⟩ := leftAlign_any b2 x2 s2 hs2
  have U1 := hidden U1
  have U2 := hidden U2
  have A1 := hidden A1
  have A2 := hidden A2
  have Q := hidden (fun (h : q % 2147483648 ≠ 0) (w : World) => quoAligned_any b1 b2 x3 x4 s3 s4 n hs3 (hz4 (hz2 h)) hs4 hn w)
  generalize p % 2147483648 = P at *
  generalize q % 2147483648 = R at *
  clear hz1 hz2 hz3 hz4 hx1 hx2 hx3 hx4 hs1 hs2 hs3 hs4 hp hq
  go_enter Tryz.func144, Tryz.ntmps144
  go_upto_region 3 with (fail)
  refine wp_region_ext (by kernel_rfl) (by kernel_rfl) ?_
  repeat (go_big_quiet_step ((go_at_call 90; first | with_reducible exact Calls_ext (magMask32 _) | with_reducible exact Calls_ext2 (magMask32 _))))
  refine wpQuiet_nil ?_
  rintro w1 ⟨g1, rfl⟩
  try simp only [ep, eq]
  clear ep eq
  have fin : ∀ (n s : Int) (a : Act) (w' : World), a.defers = [] → a.tmps[8]? = some (.int .i64 n) → a.tmps[9]? = some (.int .u8 s) → (-9223372036854775808 ≤ n ∧ n ≤ 9223372036854775807) → (0 ≤ s ∧ s ≤ 255) → (∃ x, w' = ext w x) → bodyPost Tryz.prog Tryz.f144 (QuoOK w) .ret a w' := by
    intro n s a w' hd h8 h9 hn hs hx
    exact bodyPost_ret (v := .tuple #[.int .i64 n, .int .u8 s]) (by simp [results, Tryz.results144, go_sem, h8, h9]) hd ⟨n, s, rfl, hn, hs, hx⟩
  have fin := hidden fin
  by_cases cc : P < 2139095040 ∧ R < 2139095040 ∧ P ≠ 0 ∧ R ≠ 0
  · obtain ⟨c1, c2, c3, c4⟩ := cc
    have Q := hidden (Q.out c4)
    have e1 : ((P : Int) == 2139095040) = false := by rw [beq_eq_false_iff_ne]; omega
    have e2 : ((R : Int) == 2139095040) = false := by rw [beq_eq_false_iff_ne]; omega
    have e3 : ((P : Int) == 0) = false := by rw [beq_eq_false_iff_ne]; omega
    have e4 : ((R : Int) == 0) = false := by rw [beq_eq_false_iff_ne]; omega
    go_upto_region 13 with (go_at_call 85; (with_reducible refine (expMask32 _).mono ?_); rintro _ _ ⟨rfl, g2, rfl⟩)
    refine wp_region_pivot 9 (by kernel_rfl) (by kernel_rfl) (by kernel_rfl) ?_
    simp only [List.take_succ_cons, List.take_zero, List.drop_succ_cons, List.drop_zero]
    repeat (go_big_quiet_step ((first | (go_at_call 92; first | with_reducible exact Calls_ext (U1.out _) | with_reducible exact Calls_ext2 (U1.out _) | with_reducible exact Calls_ext (U2.out _) | with_reducible exact Calls_ext2 (U2.out _)) | (go_at_call 93; first | with_reducible exact Calls_ext (A1.out _) | with_reducible exact Calls_ext2 (A1.out _) | with_reducible exact Calls_ext (A2.out _) | with_reducible exact Calls_ext2 (A2.out _)))))
    refine wpQuiet_nil ?_
    rintro w4 ⟨g4, rfl⟩
    go_wp2_with (go_at_call 98; (with_reducible refine (Q.out _).mono ?_); rintro _ _ ⟨n5, s5, rfl, hn5, hs5, g5, rfl⟩)
    simp only [endBy]
    repeat (go_big_quiet_step ((fail)))
    refine wpQuiet_nil ?_
    go_wp2_with (fail)
    exact fin.out _ _ _ _ rfl rfl rfl hn5 hs5 (Gr.of (by repeat (first | exact Gr.refl _ | refine Gr.alloc ?_ _ | refine Gr.ext ?_ _ | refine Gr.drew ?_ | refine Gr.setCell ?_ (by simp) _)))
  · go_wp2_with (go_at_call 85; (with_reducible refine (expMask32 _).mono ?_); rintro _ _ ⟨rfl, g2, rfl⟩)
    all_goals first | (exfalso; simp only [beq_eq_false_iff_ne] at *; omega) | exact fin.out _ _ _ _ rfl rfl rfl (by omega) (by omega) (Gr.of (by repeat (first | exact Gr.refl _ | refine Gr.alloc ?_ _ | refine Gr.ext ?_ _ | refine Gr.drew ?_ | refine Gr.setCell ?_ (by simp) _)))
theorem quo2432 (p q : Nat) (hp : p ≤ 18446744073709551615) (hq : q ≤ 18446744073709551615) (w : World) : Calls Tryz.prog 36 #[(.agg #[.int .u64 32, .int .u64 8, .int .u64 23]), .int .u64 p, .int .u64 q] w fun e w' => ∃ n s : Int, e = .returned (.tuple #[.int .i32 n, .int .u8 s]) ∧ (-2147483648 ≤ n ∧ n ≤ 2147483647) ∧ (0 ≤ s ∧ s ≤ 255) ∧ ∃ x, w' = ext w x := by
  have Q : Hid (∀ w, Calls Tryz.prog 144 #[(.agg #[.int .u64 32, .int .u64 8, .int .u64 23]), .int .u64 p, .int .u64 q, .int .u64 24] w (QuoOK w)) := hidden (fun w => quoTrunc32 p q 24 hp hq (by omega) w)
  go_enter Tryz.func36, Tryz.ntmps36
  go_wp2_with (go_at_call 144; (with_reducible refine (Q.out _).mono ?_); rintro _ _ ⟨n5, s5, rfl, hn5, hs5, g6, rfl⟩)
  go_ret2
  have hw : -2147483648 ≤ wrap32 n5 ∧ wrap32 n5 ≤ 2147483647 := by unfold wrap32; omega
  exact ⟨_, _, rfl, hw, hs5, Gr.of (by repeat (first | exact Gr.refl _ | refine Gr.alloc ?_ _ | refine Gr.ext ?_ _ | refine Gr.drew ?_ | refine Gr.setCell ?_ (by simp) _))⟩
end Go.Proofs.Qxb6500680aGreatDoor
