import Derived.Test.Qxb6500680aGreatDoorSk
namespace Go.Proofs.Qxb6500680aGreatDoor
open Go.RowKit Go.BigFrame
set_option linter.unusedSimpArgs false
set_option linter.unusedSectionVars false
attribute [local go_sem] ext_cell_if ext_frozen_if alloc_cell_if alloc_frozen_if ext_size ext_ext calmOp calmAt
set_option maxRecDepth 100000 in
set_option maxHeartbeats 1000000 in
theorem w105 (n N SG un L fdw us kp kp1 tl ku t1 t2 out r fl : Int) (dn dc : Nat) (odd tie : Bool)
    (e1 : (n == 0) = false) (e5 : IntKind.u32.wrap n = N) (e7 : bits .and .u32 N 2147483648 = SG)
    (hN : (n < 0 ∧ IntKind.u32.wrap (-N) = un) ∨ (¬ n < 0 ∧ N = un))
    (C198 : Hid (∀ w, Calls Tryz.prog 198 #[.int .u32 un] w (Rt (.int .i64 L) w)))
    (b4 : 0 ≤ L ∧ L ≤ 32) (b5 : dn ≤ 8) (b6 : dc ≤ 24)
    (e8 : IntKind.u32.wrap ((125 + L) * 8388608) = fdw)
    (e12 : (bits .and .u32 kp 1 != 0) = odd)
    (C199 : Hid (∀ w, Calls Tryz.prog 199 #[.int .u64 tl, .int .u64 (dn : Nat), .bool odd] w (Rt (.bool tie) w)))
    (e13 : IntKind.u32.wrap (kp + 1) = kp1) (hT : (if tie then kp1 else kp) = ku) (e17 : IntKind.u32.wrap (fdw + ku) = out) (bt : 0 ≤ tl ∧ tl < 4294967296)
    (hL : (L ≤ 24 ∧ (24 : Int) - L = (dc : Int) ∧ IntKind.u32.wrap (un * 2 ^ dc) = us ∧ IntKind.u32.wrap (fdw + us) = t1 ∧ bits .or .u32 SG t1 = r ∧ fl = 0) ∨ (¬ L ≤ 24 ∧ L - 24 = (dn : Int) ∧ un / 2 ^ dn = kp ∧ IntKind.u32.wrap (2 ^ dn) = t1 ∧ IntKind.u32.wrap (t1 - 1) = t2 ∧ bits .and .u32 un t2 = tl ∧ bits .or .u32 SG out = r ∧ ((tl = 0 ∧ fl = 0) ∨ ((tl == 0) = false ∧ fl = 1))))
    (w : World) : Calls Tryz.prog 105 #[.int .i32 n] w (Rt (.tuple #[.int .u32 r, .int .u8 fl]) w) := by
  obtain ⟨b40, b41⟩ := b4
  obtain ⟨t10, t11⟩ := bt
  rcases hL with ⟨l1, l2, l3, l4, l5, rfl⟩ | ⟨l1, l2, l3, l4, l5, l6, l7, hO⟩
  · clear e12 C199 e13 hT e17
    rcases hN with ⟨n1, n2⟩ | ⟨n1, rfl⟩
    all_goals
      go_enter Tryz.func105, Tryz.ntmps105
      go_wp2_with (first | (go_at_call 198; (with_reducible refine (C198.out _).mono ?_); rintro _ _ ⟨rfl, x198, rfl⟩))
      go_ret2
      exact ⟨by simp, Gr.of (by repeat (first | exact Gr.refl _ | refine Gr.alloc ?_ _ | refine Gr.ext ?_ _ | refine Gr.drew ?_))⟩
  · cases tie
    all_goals
      simp only [if_true, if_false, Bool.false_eq_true] at hT
      subst hT
      rcases hO with ⟨o2, rfl⟩ | ⟨o2, rfl⟩
      all_goals try subst o2
      all_goals
        rcases hN with ⟨n1, n2⟩ | ⟨n1, rfl⟩
        all_goals
          go_enter Tryz.func105, Tryz.ntmps105
          go_wp2_with (first | (go_at_call 198; (with_reducible refine (C198.out _).mono ?_); rintro _ _ ⟨rfl, x198, rfl⟩) | (go_at_call 199; (with_reducible refine (C199.out _).mono ?_); rintro _ _ ⟨rfl, x199, rfl⟩))
          go_ret2
          exact ⟨by simp, Gr.of (by repeat (first | exact Gr.refl _ | refine Gr.alloc ?_ _ | refine Gr.ext ?_ _ | refine Gr.drew ?_))⟩
end Go.Proofs.Qxb6500680aGreatDoor
