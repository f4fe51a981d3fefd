import Derived.Test.Qxb6500680aGreatDoorMore
namespace Go.Proofs.Qxb6500680aGreatDoor
open Go.RowKit Go.BigFrame
set_option linter.unusedSimpArgs false
attribute [local go_sem] ext_cell_if ext_frozen_if alloc_cell_if alloc_frozen_if ext_size ext_ext

set_option maxHeartbeats 2000000 in
theorem splitJoinHolds32 (p : Int) (neg q : Bool) (s e f : Int) (hp : Pat32 p neg q s e f) (w : World) (g : Glob w) :
    Calls Tryz.prog 13 #[.int .i64 32, .int .u64 p] w fun r w' => r = .returned (.bool true) ∧ ∃ x, w' = ext w x := by
  have HP := hp
  obtain ⟨p0, p1, s0, e0, e1, f0, f1, -, -, -, -, -, -, -, -, -, -, -, -, -, -, -⟩ := hp
  cases neg
  all_goals
    simp only [Bool.false_eq_true, if_true, if_false] at s0
    subst s0
    go_enter Tryz.func13, Tryz.ntmps13
    go_wp2_with (first | (go_at_call 15; refine (format32 _ (g.gr (by repeat (first | exact Gr.refl _ | refine Gr.alloc ?_ _ | refine Gr.ext ?_ _ | refine Gr.drew ?_ | refine Gr.setCell ?_ (by simp) _)))).mono ?_; rintro r w' ⟨rfl, x, rfl⟩) | (go_at_call 19; refine (of32 _).mono ?_; rintro r w' ⟨rfl, x, rfl⟩) | (go_at_call 67; refine (split32 p _ q _ e f HP _).mono ?_; rintro r w' ⟨rfl, x, rfl⟩) | (go_at_call 68; refine (fields32 p _ q _ e f HP _).mono ?_; rintro r w' ⟨rfl, x, rfl⟩) | (go_at_call 69; refine (signBit_any _ _).mono ?_; rintro r w' ⟨rfl, x, rfl⟩) | (go_at_call 70; refine (checkFields32 p _ q _ e f HP _).mono ?_; rintro r w' ⟨rfl, x, rfl⟩) | (go_at_call 71; refine (join32 p _ q _ e f HP _).mono ?_; rintro r w' ⟨rfl, x, rfl⟩))
    go_ret
    exact ⟨by simp, Gr.of (by repeat (first | exact Gr.refl _ | refine Gr.alloc ?_ _ | refine Gr.ext ?_ _ | refine Gr.drew ?_ | refine Gr.setCell ?_ (by simp) _))⟩

set_option maxHeartbeats 2000000 in
theorem splitJoinHolds64 (p : Int) (neg q : Bool) (s e f : Int) (hp : Pat64 p neg q s e f) (w : World) (g : Glob w) :
    Calls Tryz.prog 13 #[.int .i64 64, .int .u64 p] w fun r w' => r = .returned (.bool true) ∧ ∃ x, w' = ext w x := by
  have HP := hp
  obtain ⟨p0, p1, s0, e0, e1, f0, f1, -, -, -, -, -, -, -, -, -, -, -, -, -, -, -⟩ := hp
  cases neg
  all_goals
    simp only [Bool.false_eq_true, if_true, if_false] at s0
    subst s0
    go_enter Tryz.func13, Tryz.ntmps13
    go_wp2_with (first | (go_at_call 15; refine (format64 _ (g.gr (by repeat (first | exact Gr.refl _ | refine Gr.alloc ?_ _ | refine Gr.ext ?_ _ | refine Gr.drew ?_ | refine Gr.setCell ?_ (by simp) _)))).mono ?_; rintro r w' ⟨rfl, x, rfl⟩) | (go_at_call 19; refine (of64 _).mono ?_; rintro r w' ⟨rfl, x, rfl⟩) | (go_at_call 67; refine (split64 p _ q _ e f HP _).mono ?_; rintro r w' ⟨rfl, x, rfl⟩) | (go_at_call 68; refine (fields64 p _ q _ e f HP _).mono ?_; rintro r w' ⟨rfl, x, rfl⟩) | (go_at_call 69; refine (signBit_any _ _).mono ?_; rintro r w' ⟨rfl, x, rfl⟩) | (go_at_call 70; refine (checkFields64 p _ q _ e f HP _).mono ?_; rintro r w' ⟨rfl, x, rfl⟩) | (go_at_call 71; refine (join64 p _ q _ e f HP _).mono ?_; rintro r w' ⟨rfl, x, rfl⟩))
    go_ret
    exact ⟨by simp, Gr.of (by repeat (first | exact Gr.refl _ | refine Gr.alloc ?_ _ | refine Gr.ext ?_ _ | refine Gr.drew ?_ | refine Gr.setCell ?_ (by simp) _))⟩

end Go.Proofs.Qxb6500680aGreatDoor

