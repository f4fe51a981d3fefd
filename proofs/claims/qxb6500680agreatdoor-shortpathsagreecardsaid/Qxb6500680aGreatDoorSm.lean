import Derived.Test.Qxb6500680aGreatDoorSl
namespace Go.Proofs.Qxb6500680aGreatDoor
open Go.RowKit Go.BigFrame
set_option linter.unusedSimpArgs false
set_option linter.unusedSectionVars false
attribute [local go_sem] ext_cell_if ext_frozen_if alloc_cell_if alloc_frozen_if ext_size ext_ext
section
variable {W E F BI SM MM PM HB FM EM QB MB : Nat} (k : Fk W E F BI SM MM PM HB FM EM QB MB)
include k
theorem Fk.sgn_mod (p : Nat) : sgn SM (p % (2 * SM)) = sgn SM p := by
  unfold sgn
  have h : p % (2 * SM) / SM = p / SM % 2 := by rw [Nat.mul_comm, Nat.mod_mul_right_div_self]
  rw [h, Nat.mod_mod]
theorem Fk.split (q : Nat) (hq : q < 2 * SM) : q = q % SM + sgw SM (sgn SM q) := by
  have h := Nat.div_add_mod q SM
  have h2 : q / SM < 2 := (Nat.div_lt_iff_lt_mul k.sp).2 hq
  unfold sgw sgn
  have h4 : q / SM = 0 ∨ q / SM = 1 := by generalize q / SM = z at h2; omega
  rcases h4 with e | e
  · rw [e] at h ⊢; simp; omega
  · rw [e] at h ⊢; simp; omega
theorem Fk.nextUp (p : Nat) (hp : U64 p) : ∃ r, r < 2 * SM ∧ ∀ w, Calls Tryz.prog 53 #[(.agg #[.int .u64 W, .int .u64 E, .int .u64 F]), .int .u64 p] w (Rt (.int .u64 (r : Nat)) w) := by
  have hs := k.sp
  have h3 := k.r3
  have hH := k.hp
  have hq := Nat.mod_lt p (show 0 < 2 * SM by omega)
  have e1 := k.aP p hp
  have e2 := k.aM (p % (2 * SM)) (k.mU p)
  have e3 := k.sgn_ne (p % (2 * SM)) (k.mU p)
  have hspl := k.split _ hq
  have C20 := hidden k.c20
  have C90 := hidden k.c90
  have C85 := hidden k.c85
  have C89 := hidden k.c89
  have C166 := hidden (fun w => k.quiet (p % (2 * SM)) (k.mU p) w)
  have hql := quiet_lt k (p % (2 * SM))
  have C167 := hidden (fun w => k.minDenormal false w)
  have h63 := hidden k.s63
  obtain ⟨q, hqe⟩ : ∃ q, p % (2 * SM) = q := ⟨_, rfl⟩
  rw [hqe] at e1 e2 e3 hspl hq C166 hql
  obtain ⟨m, hme⟩ : ∃ m, q % SM = m := ⟨_, rfl⟩
  rw [hme] at e2 hspl
  obtain ⟨s, hse⟩ : ∃ s, sgn SM q = s := ⟨_, rfl⟩
  rw [hse] at e3 hspl
  obtain ⟨u, hue⟩ : ∃ u, quietN EM SM QB q = u := ⟨_, rfl⟩
  rw [hue] at C166 hql
  have hml : m < SM := by rw [← hme]; exact Nat.mod_lt _ hs
  clear hqe hme hse hue hp k
  by_cases c1 : EM < m
  · refine ⟨u, hql, fun w => ?_⟩
    clear hq hspl hql hml
    go_enter Tryz.func53, Tryz.ntmps53
    go_wp2_with (first | (go_at_call 20; (with_reducible refine (C20.out _).mono ?_); rintro _ _ ⟨rfl, x20, rfl⟩) | (go_at_call 90; (with_reducible refine (C90.out _).mono ?_); rintro _ _ ⟨rfl, x90, rfl⟩) | (go_at_call 85; (with_reducible refine (C85.out _).mono ?_); rintro _ _ ⟨rfl, x85, rfl⟩) | (go_at_call 166; (with_reducible refine (C166.out _).mono ?_); rintro _ _ ⟨rfl, x166, rfl⟩))
    go_ret
    exact ⟨rfl, Gr.of (by repeat (first | exact Gr.refl _ | refine Gr.alloc ?_ _ | refine Gr.ext ?_ _ | refine Gr.drew ?_))⟩
  by_cases c2 : m = 0
  · refine ⟨1 + sgw SM false, by simp [sgw]; omega, fun w => ?_⟩
    subst c2
    clear hq hspl hql hml h3
    go_enter Tryz.func53, Tryz.ntmps53
    go_wp2_with (first | (go_at_call 20; (with_reducible refine (C20.out _).mono ?_); rintro _ _ ⟨rfl, x20, rfl⟩) | (go_at_call 90; (with_reducible refine (C90.out _).mono ?_); rintro _ _ ⟨rfl, x90, rfl⟩) | (go_at_call 85; (with_reducible refine (C85.out _).mono ?_); rintro _ _ ⟨rfl, x85, rfl⟩) | (go_at_call 167; (with_reducible refine (C167.out _).mono ?_); rintro _ _ ⟨rfl, x167, rfl⟩))
    go_ret
    exact ⟨rfl, Gr.of (by repeat (first | exact Gr.refl _ | refine Gr.alloc ?_ _ | refine Gr.ext ?_ _ | refine Gr.drew ?_))⟩
  cases s
  · have hqm : q = m := by rw [hspl]; simp [sgw]
    subst hqm
    by_cases c3 : q = EM
    · subst c3
      refine ⟨q, by omega, fun w => ?_⟩
      clear hspl hql hml h3 hq
      go_enter Tryz.func53, Tryz.ntmps53
      go_wp2_with (first | (go_at_call 20; (with_reducible refine (C20.out _).mono ?_); rintro _ _ ⟨rfl, x20, rfl⟩) | (go_at_call 90; (with_reducible refine (C90.out _).mono ?_); rintro _ _ ⟨rfl, x90, rfl⟩) | (go_at_call 85; (with_reducible refine (C85.out _).mono ?_); rintro _ _ ⟨rfl, x85, rfl⟩) | (go_at_call 89; (with_reducible refine (C89.out _).mono ?_); rintro _ _ ⟨rfl, x89, rfl⟩))
      go_ret
      exact ⟨rfl, Gr.of (by repeat (first | exact Gr.refl _ | refine Gr.alloc ?_ _ | refine Gr.ext ?_ _ | refine Gr.drew ?_))⟩
    · refine ⟨q + 1, by omega, fun w => ?_⟩
      have hw : IntKind.u64.wrap ((q : Int) + 1) = ((q + 1 : Nat) : Int) := by have := h63.out; rw [IntKind.wrap_u64]; omega
      clear hspl hql hml h3 hq
      go_enter Tryz.func53, Tryz.ntmps53
      go_wp2_with (first | (go_at_call 20; (with_reducible refine (C20.out _).mono ?_); rintro _ _ ⟨rfl, x20, rfl⟩) | (go_at_call 90; (with_reducible refine (C90.out _).mono ?_); rintro _ _ ⟨rfl, x90, rfl⟩) | (go_at_call 85; (with_reducible refine (C85.out _).mono ?_); rintro _ _ ⟨rfl, x85, rfl⟩) | (go_at_call 89; (with_reducible refine (C89.out _).mono ?_); rintro _ _ ⟨rfl, x89, rfl⟩))
      go_ret
      exact ⟨rfl, Gr.of (by repeat (first | exact Gr.refl _ | refine Gr.alloc ?_ _ | refine Gr.ext ?_ _ | refine Gr.drew ?_))⟩
  · have hqm : q = m + SM := by rw [hspl]; simp [sgw]
    have hw : IntKind.u64.wrap ((q : Int) - 1) = ((q - 1 : Nat) : Int) := by have := h63.out; rw [IntKind.wrap_u64]; omega
    refine ⟨q - 1, by omega, fun w => ?_⟩
    clear hspl hql hml h3 hq hqm
    go_enter Tryz.func53, Tryz.ntmps53
    go_wp2_with (first | (go_at_call 20; (with_reducible refine (C20.out _).mono ?_); rintro _ _ ⟨rfl, x20, rfl⟩) | (go_at_call 90; (with_reducible refine (C90.out _).mono ?_); rintro _ _ ⟨rfl, x90, rfl⟩) | (go_at_call 85; (with_reducible refine (C85.out _).mono ?_); rintro _ _ ⟨rfl, x85, rfl⟩) | (go_at_call 89; (with_reducible refine (C89.out _).mono ?_); rintro _ _ ⟨rfl, x89, rfl⟩))
    go_ret
    exact ⟨rfl, Gr.of (by repeat (first | exact Gr.refl _ | refine Gr.alloc ?_ _ | refine Gr.ext ?_ _ | refine Gr.drew ?_))⟩
theorem Fk.neg_lt (p : Nat) : (p ^^^ SM) % (2 * SM) < 2 * SM := Nat.mod_lt _ (by have := k.sp; omega)
theorem Fk.nextDown (p : Nat) (hp : U64 p) : ∃ r, r < 2 * SM ∧ ∀ w, Calls Tryz.prog 56 #[(.agg #[.int .u64 W, .int .u64 E, .int .u64 F]), .int .u64 p] w (Rt (.int .u64 (r : Nat)) w) := by
  have hs := k.sp
  have C20 := hidden k.c20
  have e1 := k.aP p hp
  have C78 := hidden (fun w => k.isNaN (p % (2 * SM)) (k.mU p) w)
  have C166 := hidden (fun w => k.quiet (p % (2 * SM)) (k.mU p) w)
  have hql := quiet_lt k (p % (2 * SM))
  have N1 := hidden (fun w => k.neg (p % (2 * SM)) (k.mU p) w)
  have u1 : U64 ((p % (2 * SM) ^^^ SM) % (2 * SM)) := k.mU _
  obtain ⟨r, hr, c53⟩ := k.nextUp _ u1
  have C53 := hidden c53
  have ur : U64 r := by have := k.s63; unfold U64; omega
  have N2 := hidden (fun w => k.neg r ur w)
  have hn := k.neg_lt r
  obtain ⟨b, hb⟩ : ∃ b, isNan EM SM (p % (2 * SM)) = b := ⟨_, rfl⟩
  rw [hb] at C78
  obtain ⟨q, hqe⟩ : ∃ q, p % (2 * SM) = q := ⟨_, rfl⟩
  rw [hqe] at e1 C78 C166 hql N1 C53
  obtain ⟨u, hue⟩ : ∃ u, quietN EM SM QB q = u := ⟨_, rfl⟩
  rw [hue] at C166 hql
  obtain ⟨v, hve⟩ : ∃ v, (q ^^^ SM) % (2 * SM) = v := ⟨_, rfl⟩
  rw [hve] at N1 C53
  obtain ⟨z, hze⟩ : ∃ z, (r ^^^ SM) % (2 * SM) = z := ⟨_, rfl⟩
  rw [hze] at N2 hn
  clear c53 hb hqe hue hve hze u1 ur hr hs hp k
  cases b
  · refine ⟨z, hn, fun w => ?_⟩
    clear hn hql
    go_enter Tryz.func56, Tryz.ntmps56
    go_upto_region 4 with (first | (go_at_call 20; (with_reducible refine (C20.out _).mono ?_); rintro _ _ ⟨rfl, x20, rfl⟩) | (go_at_call 78; (with_reducible refine (C78.out _).mono ?_); rintro _ _ ⟨rfl, x78, rfl⟩))
    refine wp_region_ext (by kernel_rfl) (by kernel_rfl) ?_
    repeat (go_big_quiet_step ((first | (go_at_call 155; first | with_reducible exact Calls_ext (N1.out _) | with_reducible exact Calls_ext2 (N1.out _) | with_reducible exact Calls_ext (N2.out _) | with_reducible exact Calls_ext2 (N2.out _)) | (go_at_call 53; first | with_reducible exact Calls_ext (C53.out _) | with_reducible exact Calls_ext2 (C53.out _)))))
    refine wpQuiet_nil ?_
    rintro w1 ⟨y1, rfl⟩
    go_wp2_with (fail)
    go_ret
    exact ⟨rfl, Gr.of (by repeat (first | exact Gr.refl _ | refine Gr.alloc ?_ _ | refine Gr.ext ?_ _ | refine Gr.drew ?_))⟩
  · refine ⟨u, hql, fun w => ?_⟩
    clear hn hql
    go_enter Tryz.func56, Tryz.ntmps56
    go_wp2_with (first | (go_at_call 20; (with_reducible refine (C20.out _).mono ?_); rintro _ _ ⟨rfl, x20, rfl⟩) | (go_at_call 78; (with_reducible refine (C78.out _).mono ?_); rintro _ _ ⟨rfl, x78, rfl⟩) | (go_at_call 166; (with_reducible refine (C166.out _).mono ?_); rintro _ _ ⟨rfl, x166, rfl⟩))
    go_ret
    exact ⟨rfl, Gr.of (by repeat (first | exact Gr.refl _ | refine Gr.alloc ?_ _ | refine Gr.ext ?_ _ | refine Gr.drew ?_))⟩
def smag (SM p : Nat) : Int := if sgn SM p then -((p % SM : Nat) : Int) else ((p % SM : Nat) : Int)
theorem Fk.signedMag (p : Nat) (hp : U64 p) (w : World) : Calls Tryz.prog 171 #[(.agg #[.int .u64 W, .int .u64 E, .int .u64 F]), .int .u64 p] w (Rt (.int .i64 (smag SM p)) w) := by
  have C90 := hidden k.c90
  have C89 := hidden k.c89
  have e2 := k.aM p hp
  have e3 := k.sgn_ne p hp
  have hm := Nat.mod_lt p k.sp
  have h63 := k.s63
  unfold smag
  obtain ⟨m, hme⟩ : ∃ m, p % SM = m := ⟨_, rfl⟩
  rw [hme] at e2 hm ⊢
  obtain ⟨s, hse⟩ : ∃ s, sgn SM p = s := ⟨_, rfl⟩
  rw [hse] at e3 ⊢
  have hw : wrap64 (m : Int) = m := by unfold wrap64; omega
  have hw2 : wrap64 (-(m : Int)) = -(m : Int) := by unfold wrap64; omega
  clear hme hse hp k hm h63
  cases s
  · go_enter Tryz.func171, Tryz.ntmps171
    go_wp2_with (first | (go_at_call 90; (with_reducible refine (C90.out _).mono ?_); rintro _ _ ⟨rfl, x90, rfl⟩) | (go_at_call 89; (with_reducible refine (C89.out _).mono ?_); rintro _ _ ⟨rfl, x89, rfl⟩))
    go_ret
    exact ⟨rfl, Gr.of (by repeat (first | exact Gr.refl _ | refine Gr.alloc ?_ _ | refine Gr.ext ?_ _ | refine Gr.drew ?_))⟩
  · go_enter Tryz.func171, Tryz.ntmps171
    go_wp2_with (first | (go_at_call 90; (with_reducible refine (C90.out _).mono ?_); rintro _ _ ⟨rfl, x90, rfl⟩) | (go_at_call 89; (with_reducible refine (C89.out _).mono ?_); rintro _ _ ⟨rfl, x89, rfl⟩))
    go_ret
    exact ⟨congrArg (fun z => Ending.returned (.int .i64 z)) hw2, Gr.of (by repeat (first | exact Gr.refl _ | refine Gr.alloc ?_ _ | refine Gr.ext ?_ _ | refine Gr.drew ?_))⟩
/-- How two patterns stand to each other. -/
def cmpN (EM SM p q : Nat) : Int := if isNan EM SM p || isNan EM SM q then 2 else if smag SM p < smag SM q then -1 else if smag SM q < smag SM p then 1 else 0
theorem Fk.compare (p q : Nat) (hp : U64 p) (hq : U64 q) (w : World) : Calls Tryz.prog 57 #[(.agg #[.int .u64 W, .int .u64 E, .int .u64 F]), .int .u64 p, .int .u64 q] w (Rt (.int .i8 (cmpN EM SM p q)) w) := by
  have A78 := hidden (fun w => k.isNaN p hp w)
  have B78 := hidden (fun w => k.isNaN q hq w)
  have A171 := hidden (fun w => k.signedMag p hp w)
  have B171 := hidden (fun w => k.signedMag q hq w)
  unfold cmpN
  obtain ⟨b, hb⟩ : ∃ b, isNan EM SM p = b := ⟨_, rfl⟩
  rw [hb] at A78 ⊢
  obtain ⟨c, hc⟩ : ∃ b, isNan EM SM q = b := ⟨_, rfl⟩
  rw [hc] at B78 ⊢
  obtain ⟨x, hx⟩ : ∃ x, smag SM p = x := ⟨_, rfl⟩
  rw [hx] at A171 ⊢
  obtain ⟨y, hy⟩ : ∃ x, smag SM q = x := ⟨_, rfl⟩
  rw [hy] at B171 ⊢
  clear hb hc hx hy hp hq k
  cases b
  · cases c
    · rcases Int.lt_trichotomy x y with h | h | h
      · have h2 : ¬ y < x := by omega
        simp only [Bool.or_self, Bool.false_eq_true, if_false, h, if_true]
        go_enter Tryz.func57, Tryz.ntmps57
        go_upto_region 3 with (go_at_call 78; first | ((with_reducible refine (A78.out _).mono ?_); rintro _ _ ⟨rfl, x1, rfl⟩) | ((with_reducible refine (B78.out _).mono ?_); rintro _ _ ⟨rfl, x2, rfl⟩))
        refine wp_region_ext (by kernel_rfl) (by kernel_rfl) ?_
        repeat (go_big_quiet_step ((go_at_call 171; first | with_reducible exact Calls_ext (A171.out _) | with_reducible exact Calls_ext2 (A171.out _) | with_reducible exact Calls_ext (B171.out _) | with_reducible exact Calls_ext2 (B171.out _))))
        refine wpQuiet_nil ?_
        rintro w1 ⟨y1, rfl⟩
        go_wp2_with (fail)
        go_ret
        exact ⟨rfl, Gr.of (by repeat (first | exact Gr.refl _ | refine Gr.alloc ?_ _ | refine Gr.ext ?_ _ | refine Gr.drew ?_))⟩
      · subst h
        simp only [Bool.or_self, Bool.false_eq_true, if_false, Int.lt_irrefl]
        go_enter Tryz.func57, Tryz.ntmps57
        go_upto_region 3 with (go_at_call 78; first | ((with_reducible refine (A78.out _).mono ?_); rintro _ _ ⟨rfl, x1, rfl⟩) | ((with_reducible refine (B78.out _).mono ?_); rintro _ _ ⟨rfl, x2, rfl⟩))
        refine wp_region_ext (by kernel_rfl) (by kernel_rfl) ?_
        repeat (go_big_quiet_step ((go_at_call 171; first | with_reducible exact Calls_ext (A171.out _) | with_reducible exact Calls_ext2 (A171.out _) | with_reducible exact Calls_ext (B171.out _) | with_reducible exact Calls_ext2 (B171.out _))))
        refine wpQuiet_nil ?_
        rintro w1 ⟨y1, rfl⟩
        go_wp2_with (fail)
        go_ret
        exact ⟨rfl, Gr.of (by repeat (first | exact Gr.refl _ | refine Gr.alloc ?_ _ | refine Gr.ext ?_ _ | refine Gr.drew ?_))⟩
      · have h2 : ¬ x < y := by omega
        simp only [Bool.or_self, Bool.false_eq_true, if_false, h, h2, if_true]
        go_enter Tryz.func57, Tryz.ntmps57
        go_upto_region 3 with (go_at_call 78; first | ((with_reducible refine (A78.out _).mono ?_); rintro _ _ ⟨rfl, x1, rfl⟩) | ((with_reducible refine (B78.out _).mono ?_); rintro _ _ ⟨rfl, x2, rfl⟩))
        refine wp_region_ext (by kernel_rfl) (by kernel_rfl) ?_
        repeat (go_big_quiet_step ((go_at_call 171; first | with_reducible exact Calls_ext (A171.out _) | with_reducible exact Calls_ext2 (A171.out _) | with_reducible exact Calls_ext (B171.out _) | with_reducible exact Calls_ext2 (B171.out _))))
        refine wpQuiet_nil ?_
        rintro w1 ⟨y1, rfl⟩
        go_wp2_with (fail)
        go_ret
        exact ⟨rfl, Gr.of (by repeat (first | exact Gr.refl _ | refine Gr.alloc ?_ _ | refine Gr.ext ?_ _ | refine Gr.drew ?_))⟩
    · go_enter Tryz.func57, Tryz.ntmps57
      go_wp2_with (go_at_call 78; first | ((with_reducible refine (A78.out _).mono ?_); rintro _ _ ⟨rfl, x1, rfl⟩) | ((with_reducible refine (B78.out _).mono ?_); rintro _ _ ⟨rfl, x2, rfl⟩))
      go_ret
      exact ⟨rfl, Gr.of (by repeat (first | exact Gr.refl _ | refine Gr.alloc ?_ _ | refine Gr.ext ?_ _ | refine Gr.drew ?_))⟩
  · go_enter Tryz.func57, Tryz.ntmps57
    go_wp2_with (go_at_call 78; first | ((with_reducible refine (A78.out _).mono ?_); rintro _ _ ⟨rfl, x1, rfl⟩) | ((with_reducible refine (B78.out _).mono ?_); rintro _ _ ⟨rfl, x2, rfl⟩))
    go_ret
    exact ⟨rfl, Gr.of (by repeat (first | exact Gr.refl _ | refine Gr.alloc ?_ _ | refine Gr.ext ?_ _ | refine Gr.drew ?_))⟩
end
end Go.Proofs.Qxb6500680aGreatDoor
