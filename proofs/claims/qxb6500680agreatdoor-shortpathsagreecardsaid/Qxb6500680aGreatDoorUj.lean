import Derived.Test.Qxb6500680aGreatDoorSk
namespace Go.Proofs.Qxb6500680aGreatDoor
open Go.RowKit Go.BigFrame
set_option linter.unusedSimpArgs false
set_option linter.unusedSectionVars false
attribute [local go_sem] ext_cell_if ext_frozen_if alloc_cell_if alloc_frozen_if ext_size ext_ext calmOp calmAt
set_option maxRecDepth 100000 in
set_option maxHeartbeats 1000000 in
theorem w106 (A n M N Z SG FL FR FD sg un P L kp kp1 tl ku t1 t2 z1 z2 z3 out r fl : Int) (dn : Nat) (odd tie : Bool)
    (e1 : bits .and .u32 A 2147483647 = M) (e2 : ¬ (2139095040 : Int) ≤ M) (e3 : (M == 0) = false) (e4 : (n == 0) = false)
    (e5 : IntKind.u32.wrap n = N) (e6 : bits .xor .u32 A N = Z) (e7 : bits .and .u32 Z 2147483648 = SG)
    (e8 : M / 8388608 = FL) (e9 : bits .and .u32 M 8388607 = FR)
    (b1 : 0 ≤ FL ∧ FL < 256) (b2 : 0 ≤ FR ∧ FR < 8388608) (b3 : -2147483648 ≤ n ∧ n < 2147483648)
    (hF : ((FL == 0) = true ∧ FD = 1 ∧ sg = FR) ∨ ((FL == 0) = false ∧ FD = FL ∧ bits .or .u64 FR 8388608 = sg))
    (C96 : Hid (∀ w, Calls Tryz.prog 96 #[.int .i64 n] w (Rt (.int .u64 un) w)))
    (e11 : IntKind.u64.wrap (sg * un) = P)
    (C200 : Hid (∀ w, Calls Tryz.prog 200 #[.int .u64 P] w (Rt (.int .i64 L) w)))
    (b4 : 0 ≤ L ∧ L ≤ 64) (b5 : dn ≤ 40)
    (hL : (¬ (24 : Int) < L ∧ dn = 0 ∧ kp = P ∧ bits .and .u64 P 0 = 0 ∧ tl = 0) ∨ ((24 : Int) < L ∧ L - 24 = (dn : Int) ∧ P / 2 ^ dn = kp ∧ IntKind.u64.wrap (2 ^ dn) = t1 ∧ IntKind.u64.wrap (t1 - 1) = t2 ∧ bits .and .u64 P t2 = tl))
    (e12 : (bits .and .u64 kp 1 != 0) = odd)
    (C199 : Hid (∀ w, Calls Tryz.prog 199 #[.int .u64 tl, .int .u64 (dn : Nat), .bool odd] w (Rt (.bool tie) w)))
    (e13 : IntKind.u64.wrap (kp + 1) = kp1) (hT : (if tie then kp1 else kp) = ku)
    (e14 : IntKind.u64.wrap (FD + (dn : Int)) = z1) (e15 : IntKind.u64.wrap (z1 - 1) = z2) (e16 : IntKind.u64.wrap (z2 * 8388608) = z3) (e17 : IntKind.u64.wrap (z3 + ku) = out)
    (hO : ((2139095040 : Int) ≤ out ∧ r = bits .or .u32 SG 2139095040 ∧ fl = 5) ∨ (¬ (2139095040 : Int) ≤ out ∧ r = bits .or .u32 SG (out % 4294967296) ∧ ((tl = 0 ∧ fl = 0) ∨ ((tl == 0) = false ∧ fl = 1))))
    (w : World) : Calls Tryz.prog 106 #[.int .i32 n, .int .u32 A] w (Rt (.tuple #[.int .u32 r, .int .u8 fl]) w) := by
  obtain ⟨b10, b11⟩ := b1
  obtain ⟨b20, b21⟩ := b2
  obtain ⟨b30, b31⟩ := b3
  obtain ⟨b40, b41⟩ := b4
  rcases hF with ⟨f1, rfl, rfl⟩ | ⟨f1, rfl, f2⟩
  · rcases hL with ⟨l1, rfl, rfl, l2, rfl⟩ | ⟨l1, l2, l3, l4, l5, l6⟩
    · replace C199 : Hid (∀ w, Calls Tryz.prog 199 #[.int .u64 0, .int .u64 0, .bool odd] w (Rt (.bool tie) w)) := C199
      obtain rfl : z1 = 1 := by rw [← e14]; rfl
      obtain rfl : z2 = 0 := by rw [← e15]; rfl
      obtain rfl : z3 = 0 := by rw [← e16]; rfl
      rw [Int.zero_add] at e17
      clear e14 e15 e16
      cases tie
      all_goals
        simp only [if_true, if_false, Bool.false_eq_true] at hT
        subst hT
        rcases hO with ⟨o1, rfl, rfl⟩ | ⟨o1, rfl, ⟨o2, rfl⟩ | ⟨o2, rfl⟩⟩
        all_goals try (exact absurd o2 (by decide))
        all_goals try subst o2
        all_goals
          go_enter Tryz.func106, Tryz.ntmps106
          go_wp2_with (first | (go_at_call 96; (with_reducible refine (C96.out _).mono ?_); rintro _ _ ⟨rfl, x96, rfl⟩) | (go_at_call 200; (with_reducible refine (C200.out _).mono ?_); rintro _ _ ⟨rfl, x200, rfl⟩) | (go_at_call 199; (with_reducible refine (C199.out _).mono ?_); rintro _ _ ⟨rfl, x199, rfl⟩))
          go_ret2
          exact ⟨by simp, Gr.of (by repeat (first | exact Gr.refl _ | refine Gr.alloc ?_ _ | refine Gr.ext ?_ _ | refine Gr.drew ?_))⟩
    · cases tie
      all_goals
        simp only [if_true, if_false, Bool.false_eq_true] at hT
        subst hT
        rcases hO with ⟨o1, rfl, rfl⟩ | ⟨o1, rfl, ⟨o2, rfl⟩ | ⟨o2, rfl⟩⟩
        all_goals try (exact absurd o2 (by decide))
        all_goals try subst o2
        all_goals
          go_enter Tryz.func106, Tryz.ntmps106
          go_wp2_with (first | (go_at_call 96; (with_reducible refine (C96.out _).mono ?_); rintro _ _ ⟨rfl, x96, rfl⟩) | (go_at_call 200; (with_reducible refine (C200.out _).mono ?_); rintro _ _ ⟨rfl, x200, rfl⟩) | (go_at_call 199; (with_reducible refine (C199.out _).mono ?_); rintro _ _ ⟨rfl, x199, rfl⟩))
          go_ret2
          exact ⟨by simp, Gr.of (by repeat (first | exact Gr.refl _ | refine Gr.alloc ?_ _ | refine Gr.ext ?_ _ | refine Gr.drew ?_))⟩
  · rcases hL with ⟨l1, rfl, rfl, l2, rfl⟩ | ⟨l1, l2, l3, l4, l5, l6⟩
    · replace C199 : Hid (∀ w, Calls Tryz.prog 199 #[.int .u64 0, .int .u64 0, .bool odd] w (Rt (.bool tie) w)) := C199
      obtain rfl : z1 = FD := by rw [← e14, IntKind.wrap_u64]; omega
      clear e14
      cases tie
      all_goals
        simp only [if_true, if_false, Bool.false_eq_true] at hT
        subst hT
        rcases hO with ⟨o1, rfl, rfl⟩ | ⟨o1, rfl, ⟨o2, rfl⟩ | ⟨o2, rfl⟩⟩
        all_goals try (exact absurd o2 (by decide))
        all_goals try subst o2
        all_goals
          go_enter Tryz.func106, Tryz.ntmps106
          go_wp2_with (first | (go_at_call 96; (with_reducible refine (C96.out _).mono ?_); rintro _ _ ⟨rfl, x96, rfl⟩) | (go_at_call 200; (with_reducible refine (C200.out _).mono ?_); rintro _ _ ⟨rfl, x200, rfl⟩) | (go_at_call 199; (with_reducible refine (C199.out _).mono ?_); rintro _ _ ⟨rfl, x199, rfl⟩))
          go_ret2
          exact ⟨by simp, Gr.of (by repeat (first | exact Gr.refl _ | refine Gr.alloc ?_ _ | refine Gr.ext ?_ _ | refine Gr.drew ?_))⟩
    · cases tie
      all_goals
        simp only [if_true, if_false, Bool.false_eq_true] at hT
        subst hT
        rcases hO with ⟨o1, rfl, rfl⟩ | ⟨o1, rfl, ⟨o2, rfl⟩ | ⟨o2, rfl⟩⟩
        all_goals try (exact absurd o2 (by decide))
        all_goals try subst o2
        all_goals
          go_enter Tryz.func106, Tryz.ntmps106
          go_wp2_with (first | (go_at_call 96; (with_reducible refine (C96.out _).mono ?_); rintro _ _ ⟨rfl, x96, rfl⟩) | (go_at_call 200; (with_reducible refine (C200.out _).mono ?_); rintro _ _ ⟨rfl, x200, rfl⟩) | (go_at_call 199; (with_reducible refine (C199.out _).mono ?_); rintro _ _ ⟨rfl, x199, rfl⟩))
          go_ret2
          exact ⟨by simp, Gr.of (by repeat (first | exact Gr.refl _ | refine Gr.alloc ?_ _ | refine Gr.ext ?_ _ | refine Gr.drew ?_))⟩
end Go.Proofs.Qxb6500680aGreatDoor
