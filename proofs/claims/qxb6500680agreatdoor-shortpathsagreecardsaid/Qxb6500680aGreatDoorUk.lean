import Derived.Test.Qxb6500680aGreatDoorSk
namespace Go.Proofs.Qxb6500680aGreatDoor
open Go.RowKit Go.BigFrame
set_option linter.unusedSimpArgs false
set_option linter.unusedSectionVars false
attribute [local go_sem] ext_cell_if ext_frozen_if alloc_cell_if alloc_frozen_if ext_size ext_ext calmOp calmAt
set_option maxRecDepth 100000 in
set_option maxHeartbeats 10000000 in
theorem w128 (A n M N Z SG FL FR FD sg un hi lo L1 L2 L kp kp1 tl ku hs ls t1 t2 z1 z2 z3 out r fl : Int) (dn dc : Nat) (odd tie : Bool)
    (e1 : bits .and .u64 A 9223372036854775807 = M) (e2 : ¬ (9218868437227405312 : Int) ≤ M) (e3 : (M == 0) = false) (e4 : (un == 0) = false) (e4' : un / 4294967296 = 0)
    (e5 : IntKind.u64.wrap n = N) (e6 : bits .xor .u64 A N = Z) (e7 : bits .and .u64 Z 9223372036854775808 = SG)
    (e8 : M / 4503599627370496 = FL) (e9 : bits .and .u64 M 4503599627370495 = FR)
    (b1 : 0 ≤ FL ∧ FL < 2048) (b2 : 0 ≤ FR ∧ FR < 4503599627370496)
    (hF : ((FL == 0) = true ∧ FD = 1 ∧ sg = FR) ∨ ((FL == 0) = false ∧ FD = FL ∧ bits .or .u64 FR 4503599627370496 = sg))
    (C96 : Hid (∀ w, Calls Tryz.prog 96 #[.int .i64 n] w (Rt (.int .u64 un) w)))
    (C194 : Hid (∀ w, Calls Tryz.prog 194 #[.int .u64 sg, .int .u64 un] w (Rt (.tuple #[.int .u64 hi, .int .u64 lo]) w)))
    (C200 : Hid (∀ w, Calls Tryz.prog 200 #[.int .u64 lo] w (Rt (.int .i64 L1) w)))
    (D200 : Hid (∀ w, Calls Tryz.prog 200 #[.int .u64 hi] w (Rt (.int .i64 L2) w)))
    (b4 : 0 ≤ L1 ∧ L1 ≤ 64) (b6 : 0 ≤ L2 ∧ L2 ≤ 64) (b5 : dn ≤ 40)
    (hL : (hi = 0 ∧ L = L1 ∧ ¬ (53 : Int) < L ∧ dn = 0 ∧ kp = lo ∧ bits .or .u64 0 lo = lo ∧ bits .and .u64 lo 0 = 0 ∧ tl = 0) ∨ (hi = 0 ∧ L = L1 ∧ (53 : Int) < L ∧ L - 53 = (dn : Int) ∧ (64 : Int) - (dn : Int) = (dc : Int) ∧ lo / 2 ^ dn = ls ∧ bits .or .u64 0 ls = kp ∧ IntKind.u64.wrap (2 ^ dn) = t1 ∧ IntKind.u64.wrap (t1 - 1) = t2 ∧ bits .and .u64 lo t2 = tl) ∨ ((hi == 0) = false ∧ 64 + L2 = L ∧ (53 : Int) < L ∧ L - 53 = (dn : Int) ∧ (64 : Int) - (dn : Int) = (dc : Int) ∧ IntKind.u64.wrap (hi * 2 ^ dc) = hs ∧ lo / 2 ^ dn = ls ∧ bits .or .u64 hs ls = kp ∧ IntKind.u64.wrap (2 ^ dn) = t1 ∧ IntKind.u64.wrap (t1 - 1) = t2 ∧ bits .and .u64 lo t2 = tl))
    (e12 : (bits .and .u64 kp 1 != 0) = odd)
    (C199 : Hid (∀ w, Calls Tryz.prog 199 #[.int .u64 tl, .int .u64 (dn : Nat), .bool odd] w (Rt (.bool tie) w)))
    (e13 : IntKind.u64.wrap (kp + 1) = kp1) (hT : (if tie then kp1 else kp) = ku)
    (e14 : IntKind.u64.wrap (FD + (dn : Int)) = z1) (e15 : IntKind.u64.wrap (z1 - 1) = z2) (e16 : IntKind.u64.wrap (z2 * 4503599627370496) = z3) (e17 : IntKind.u64.wrap (z3 + ku) = out)
    (hO : ((9218868437227405312 : Int) ≤ out ∧ r = bits .or .u64 SG 9218868437227405312 ∧ fl = 5) ∨ (¬ (9218868437227405312 : Int) ≤ out ∧ r = bits .or .u64 SG out ∧ ((tl = 0 ∧ fl = 0) ∨ ((tl == 0) = false ∧ fl = 1))))
    (w : World) : Calls Tryz.prog 128 #[.int .i64 n, .int .u64 A] w (Rt (.tuple #[.int .u64 r, .int .u8 fl]) w) := by
  obtain ⟨b10, b11⟩ := b1
  obtain ⟨b20, b21⟩ := b2
  obtain ⟨b40, b41⟩ := b4
  obtain ⟨b60, b61⟩ := b6
  rcases hF with ⟨f1, rfl, rfl⟩ | ⟨f1, rfl, f2⟩
  · rcases hL with ⟨rfl, rfl, l1, rfl, rfl, l2, l3, rfl⟩ | ⟨rfl, rfl, l1, l2, l3, l4, l5, l6, l7, l8⟩ | ⟨l0, l9, l1, l2, l3, l4, l5, l6, l7, l8, l10⟩
    · replace C199 : Hid (∀ w, Calls Tryz.prog 199 #[.int .u64 0, .int .u64 0, .bool odd] w (Rt (.bool tie) w)) := C199
      obtain rfl : z1 = 1 := by rw [← e14]; rfl
      obtain rfl : z2 = 0 := by rw [← e15]; rfl
      obtain rfl : z3 = 0 := by rw [← e16]; rfl
      rw [Int.zero_add] at e17
      clear e14 e15 e16
      cases tie
      all_goals
        simp only [if_true, if_false, Bool.false_eq_true] at hT
        subst hT
        rcases hO with ⟨o1, rfl, rfl⟩ | ⟨o1, rfl, ⟨o2, rfl⟩ | ⟨o2, rfl⟩⟩
        all_goals try (exact absurd o2 (by decide))
        all_goals try subst o2
        all_goals
          go_enter Tryz.func128, Tryz.ntmps128
          go_wp2_with (first | (go_at_call 96; (with_reducible refine (C96.out _).mono ?_); rintro _ _ ⟨rfl, x96, rfl⟩) | (go_at_call 194; (with_reducible refine (C194.out _).mono ?_); rintro _ _ ⟨rfl, x194, rfl⟩) | (go_at_call 200; (with_reducible refine (C200.out _).mono ?_); rintro _ _ ⟨rfl, x200, rfl⟩) | (go_at_call 200; (with_reducible refine (D200.out _).mono ?_); rintro _ _ ⟨rfl, y200, rfl⟩) | (go_at_call 199; (with_reducible refine (C199.out _).mono ?_); rintro _ _ ⟨rfl, x199, rfl⟩))
          go_ret2
          exact ⟨by simp, Gr.of (by repeat (first | exact Gr.refl _ | refine Gr.alloc ?_ _ | refine Gr.ext ?_ _ | refine Gr.drew ?_))⟩
    · cases tie
      all_goals
        simp only [if_true, if_false, Bool.false_eq_true] at hT
        subst hT
        rcases hO with ⟨o1, rfl, rfl⟩ | ⟨o1, rfl, ⟨o2, rfl⟩ | ⟨o2, rfl⟩⟩
        all_goals try (exact absurd o2 (by decide))
        all_goals try subst o2
        all_goals
          go_enter Tryz.func128, Tryz.ntmps128
          go_wp2_with (first | (go_at_call 96; (with_reducible refine (C96.out _).mono ?_); rintro _ _ ⟨rfl, x96, rfl⟩) | (go_at_call 194; (with_reducible refine (C194.out _).mono ?_); rintro _ _ ⟨rfl, x194, rfl⟩) | (go_at_call 200; (with_reducible refine (C200.out _).mono ?_); rintro _ _ ⟨rfl, x200, rfl⟩) | (go_at_call 200; (with_reducible refine (D200.out _).mono ?_); rintro _ _ ⟨rfl, y200, rfl⟩) | (go_at_call 199; (with_reducible refine (C199.out _).mono ?_); rintro _ _ ⟨rfl, x199, rfl⟩))
          go_ret2
          exact ⟨by simp, Gr.of (by repeat (first | exact Gr.refl _ | refine Gr.alloc ?_ _ | refine Gr.ext ?_ _ | refine Gr.drew ?_))⟩
    · have b62 : L ≤ 128 := by omega
      cases tie
      all_goals
        simp only [if_true, if_false, Bool.false_eq_true] at hT
        subst hT
        rcases hO with ⟨o1, rfl, rfl⟩ | ⟨o1, rfl, ⟨o2, rfl⟩ | ⟨o2, rfl⟩⟩
        all_goals try (exact absurd o2 (by decide))
        all_goals try subst o2
        all_goals
          go_enter Tryz.func128, Tryz.ntmps128
          go_wp2_with (first | (go_at_call 96; (with_reducible refine (C96.out _).mono ?_); rintro _ _ ⟨rfl, x96, rfl⟩) | (go_at_call 194; (with_reducible refine (C194.out _).mono ?_); rintro _ _ ⟨rfl, x194, rfl⟩) | (go_at_call 200; (with_reducible refine (C200.out _).mono ?_); rintro _ _ ⟨rfl, x200, rfl⟩) | (go_at_call 200; (with_reducible refine (D200.out _).mono ?_); rintro _ _ ⟨rfl, y200, rfl⟩) | (go_at_call 199; (with_reducible refine (C199.out _).mono ?_); rintro _ _ ⟨rfl, x199, rfl⟩))
          go_ret2
          exact ⟨by simp, Gr.of (by repeat (first | exact Gr.refl _ | refine Gr.alloc ?_ _ | refine Gr.ext ?_ _ | refine Gr.drew ?_))⟩
  · rcases hL with ⟨rfl, rfl, l1, rfl, rfl, l2, l3, rfl⟩ | ⟨rfl, rfl, l1, l2, l3, l4, l5, l6, l7, l8⟩ | ⟨l0, l9, l1, l2, l3, l4, l5, l6, l7, l8, l10⟩
    · replace C199 : Hid (∀ w, Calls Tryz.prog 199 #[.int .u64 0, .int .u64 0, .bool odd] w (Rt (.bool tie) w)) := C199
      obtain rfl : z1 = FD := by rw [← e14, IntKind.wrap_u64]; omega
      clear e14
      cases tie
      all_goals
        simp only [if_true, if_false, Bool.false_eq_true] at hT
        subst hT
        rcases hO with ⟨o1, rfl, rfl⟩ | ⟨o1, rfl, ⟨o2, rfl⟩ | ⟨o2, rfl⟩⟩
        all_goals try (exact absurd o2 (by decide))
        all_goals try subst o2
        all_goals
          go_enter Tryz.func128, Tryz.ntmps128
          go_wp2_with (first | (go_at_call 96; (with_reducible refine (C96.out _).mono ?_); rintro _ _ ⟨rfl, x96, rfl⟩) | (go_at_call 194; (with_reducible refine (C194.out _).mono ?_); rintro _ _ ⟨rfl, x194, rfl⟩) | (go_at_call 200; (with_reducible refine (C200.out _).mono ?_); rintro _ _ ⟨rfl, x200, rfl⟩) | (go_at_call 200; (with_reducible refine (D200.out _).mono ?_); rintro _ _ ⟨rfl, y200, rfl⟩) | (go_at_call 199; (with_reducible refine (C199.out _).mono ?_); rintro _ _ ⟨rfl, x199, rfl⟩))
          go_ret2
          exact ⟨by simp, Gr.of (by repeat (first | exact Gr.refl _ | refine Gr.alloc ?_ _ | refine Gr.ext ?_ _ | refine Gr.drew ?_))⟩
    · cases tie
      all_goals
        simp only [if_true, if_false, Bool.false_eq_true] at hT
        subst hT
        rcases hO with ⟨o1, rfl, rfl⟩ | ⟨o1, rfl, ⟨o2, rfl⟩ | ⟨o2, rfl⟩⟩
        all_goals try (exact absurd o2 (by decide))
        all_goals try subst o2
        all_goals
          go_enter Tryz.func128, Tryz.ntmps128
          go_wp2_with (first | (go_at_call 96; (with_reducible refine (C96.out _).mono ?_); rintro _ _ ⟨rfl, x96, rfl⟩) | (go_at_call 194; (with_reducible refine (C194.out _).mono ?_); rintro _ _ ⟨rfl, x194, rfl⟩) | (go_at_call 200; (with_reducible refine (C200.out _).mono ?_); rintro _ _ ⟨rfl, x200, rfl⟩) | (go_at_call 200; (with_reducible refine (D200.out _).mono ?_); rintro _ _ ⟨rfl, y200, rfl⟩) | (go_at_call 199; (with_reducible refine (C199.out _).mono ?_); rintro _ _ ⟨rfl, x199, rfl⟩))
          go_ret2
          exact ⟨by simp, Gr.of (by repeat (first | exact Gr.refl _ | refine Gr.alloc ?_ _ | refine Gr.ext ?_ _ | refine Gr.drew ?_))⟩
    · have b62 : L ≤ 128 := by omega
      cases tie
      all_goals
        simp only [if_true, if_false, Bool.false_eq_true] at hT
        subst hT
        rcases hO with ⟨o1, rfl, rfl⟩ | ⟨o1, rfl, ⟨o2, rfl⟩ | ⟨o2, rfl⟩⟩
        all_goals try (exact absurd o2 (by decide))
        all_goals try subst o2
        all_goals
          go_enter Tryz.func128, Tryz.ntmps128
          go_wp2_with (first | (go_at_call 96; (with_reducible refine (C96.out _).mono ?_); rintro _ _ ⟨rfl, x96, rfl⟩) | (go_at_call 194; (with_reducible refine (C194.out _).mono ?_); rintro _ _ ⟨rfl, x194, rfl⟩) | (go_at_call 200; (with_reducible refine (C200.out _).mono ?_); rintro _ _ ⟨rfl, x200, rfl⟩) | (go_at_call 200; (with_reducible refine (D200.out _).mono ?_); rintro _ _ ⟨rfl, y200, rfl⟩) | (go_at_call 199; (with_reducible refine (C199.out _).mono ?_); rintro _ _ ⟨rfl, x199, rfl⟩))
          go_ret2
          exact ⟨by simp, Gr.of (by repeat (first | exact Gr.refl _ | refine Gr.alloc ?_ _ | refine Gr.ext ?_ _ | refine Gr.drew ?_))⟩
end Go.Proofs.Qxb6500680aGreatDoor
