import Derived.Test.Qxb6500680aGreatDoorSe
namespace Go.Proofs.Qxb6500680aGreatDoor
open Go.RowKit Go.BigFrame
set_option linter.unusedSimpArgs false
set_option linter.unusedSectionVars false
attribute [local go_sem] ext_cell_if ext_frozen_if alloc_cell_if alloc_frozen_if ext_size ext_ext calmOp calmAt
/-- The aligned parts. -/
def lexp (F BI HB MB p : Nat) : Int := uexp F BI HB MB p - ((64 - Lib.bitLen (usig HB MB p) : Nat) : Int)
def lsig (HB MB p : Nat) : Nat := usig HB MB p * 2 ^ (64 - Lib.bitLen (usig HB MB p))
/-- The quotient, below 2^24. -/
def qtN (F BI SM EM HB MB a b : Nat) : Int × Int := if EM < a % SM ∨ EM < b % SM then (0, 2) else if a % SM = EM ∨ b % SM = EM then (0, 3) else if b % SM = 0 then (0, 5) else if a % SM = 0 then (0, 0) else quoN (sgn SM a != sgn SM b) (lexp F BI HB MB a - lexp F BI HB MB b) (lsig HB MB a) (lsig HB MB b)
section
variable {W E F BI SM MM PM HB FM EM QB MB : Nat} (k : Fk W E F BI SM MM PM HB FM EM QB MB)
include k
theorem Fk.usig0 (p : Nat) (h : p % SM ≠ 0) : usig HB MB p ≠ 0 := by
  have h1 := Nat.div_add_mod (p % SM) HB
  rw [k.frE, k.mgE] at h1
  have h2 := k.hp
  unfold usig
  split
  · rename_i h3
    rw [h3, Nat.mul_zero] at h1
    omega
  · omega
theorem Fk.lsig_lo (p : Nat) (h : p % SM ≠ 0) : 9223372036854775808 ≤ lsig HB MB p := (align _ (by have := k.usig_u p; unfold U64 at this; omega) (k.usig0 p h)).2.2.1
theorem Fk.lsig_u (p : Nat) (h : p % SM ≠ 0) : U64 (lsig HB MB p) := (by
  have := (align _ (by have := k.usig_u p; unfold U64 at this; omega) (k.usig0 p h)).2.2.2
  unfold U64 lsig
  omega)
theorem Fk.lexp_bd (p : Nat) : -3000 ≤ lexp F BI HB MB p ∧ lexp F BI HB MB p ≤ 3000 := by
  have h := k.uexp_bd p
  unfold lexp
  omega
theorem Fk.align (p : Nat) (h : p % SM ≠ 0) (w : World) : Calls Tryz.prog 93 #[.agg #[.bool (sgn SM p), .int .i64 (uexp F BI HB MB p), .int .u64 (usig HB MB p : Nat)]] w (Rt (.agg #[.bool (sgn SM p), .int .i64 (lexp F BI HB MB p), .int .u64 (lsig HB MB p : Nat)]) w) := leftAlign_eq _ _ _ (k.usig_u p) (k.usig0 p h) (by have := k.uexp_bd p; omega) (by have := k.uexp_bd p; omega) w
set_option maxRecDepth 100000 in
set_option maxHeartbeats 1000000 in
theorem Fk.quoTrunc (a b : Nat) (ha : U64 a) (hb : U64 b) (w : World) : Calls Tryz.prog 144 #[(.agg #[.int .u64 W, .int .u64 E, .int .u64 F]), .int .u64 a, .int .u64 b, .int .u64 24] w (Rt (.tuple #[.int .i64 (qtN F BI SM EM HB MB a b).1, .int .u8 (qtN F BI SM EM HB MB a b).2]) w) := by
  have C90 := hidden k.c90
  have C85 := hidden k.c85
  have U1 := hidden (fun w => k.unpack a ha w)
  have U2 := hidden (fun w => k.unpack b hb w)
  have A1 := hidden (fun h w => k.align a h w)
  have A2 := hidden (fun h w => k.align b h w)
  have Q := hidden (fun h1 h2 w => quoAligned_eq (sgn SM a) (sgn SM b) (lexp F BI HB MB a) (lexp F BI HB MB b) (lsig HB MB a) (lsig HB MB b) (k.lsig_u a h1) (k.lsig_lo b h2) (k.lsig_u b h2) (by have := k.lexp_bd a; omega) (by have := k.lexp_bd b; omega) w)
  have hE0 : EM ≠ 0 := by have h5 := k.r5; have h6 := k.r6; have h7 : HB ≤ MB * HB := Nat.le_mul_of_pos_left _ (by omega); have := k.hp; omega
  have bE0 : ((EM : Int) == 0) = false := by rw [nbeq]; simp [hE0]
  have e1 := k.aM a ha
  have e2 := k.aM b hb
  obtain ⟨R, hR⟩ : ∃ R, qtN F BI SM EM HB MB a b = R := ⟨_, rfl⟩
  rw [hR]
  unfold qtN at hR
  generalize quoN (sgn SM a != sgn SM b) (lexp F BI HB MB a - lexp F BI HB MB b) (lsig HB MB a) (lsig HB MB b) = QQ at *
  obtain ⟨q1, q2⟩ := QQ
  dsimp only at Q
  generalize usig HB MB a = s1 at *
  generalize usig HB MB b = s2 at *
  generalize uexp F BI HB MB a = x1 at *
  generalize uexp F BI HB MB b = x2 at *
  generalize lsig HB MB a = t1 at *
  generalize lsig HB MB b = t2 at *
  generalize lexp F BI HB MB a = z1 at *
  generalize lexp F BI HB MB b = z2 at *
  generalize sgn SM a = b1 at *
  generalize sgn SM b = b2 at *
  obtain ⟨m, hme⟩ : ∃ m, a % SM = m := ⟨_, rfl⟩
  rw [hme] at e1 hR A1 Q
  obtain ⟨n, hne⟩ : ∃ m, b % SM = m := ⟨_, rfl⟩
  rw [hne] at e2 hR A2 Q
  clear k ha hb hme hne
  by_cases c1 : EM < m
  · rw [if_pos (.inl c1)] at hR
    subst hR
    go_enter Tryz.func144, Tryz.ntmps144
    go_upto_region 3 with (fail)
    refine wp_region_ext (by kernel_rfl) (by kernel_rfl) ?_
    repeat (go_big_quiet_step ((go_at_call 90; first | with_reducible exact Calls_ext (C90.out _) | with_reducible exact Calls_ext2 (C90.out _))))
    refine wpQuiet_nil ?_
    rintro w1 ⟨y1, rfl⟩
    try simp only [e1, e2]
    go_wp2_with (go_at_call 85; (with_reducible refine (C85.out _).mono ?_); rintro _ _ ⟨rfl, x85, rfl⟩)
    go_ret2
    exact ⟨rfl, Gr.of (by repeat (first | exact Gr.refl _ | refine Gr.alloc ?_ _ | refine Gr.ext ?_ _ | refine Gr.drew ?_))⟩
  by_cases c2 : EM < n
  · rw [if_pos (.inr c2)] at hR
    subst hR
    go_enter Tryz.func144, Tryz.ntmps144
    go_upto_region 3 with (fail)
    refine wp_region_ext (by kernel_rfl) (by kernel_rfl) ?_
    repeat (go_big_quiet_step ((go_at_call 90; first | with_reducible exact Calls_ext (C90.out _) | with_reducible exact Calls_ext2 (C90.out _))))
    refine wpQuiet_nil ?_
    rintro w1 ⟨y1, rfl⟩
    try simp only [e1, e2]
    go_wp2_with (go_at_call 85; (with_reducible refine (C85.out _).mono ?_); rintro _ _ ⟨rfl, x85, rfl⟩)
    go_ret2
    exact ⟨rfl, Gr.of (by repeat (first | exact Gr.refl _ | refine Gr.alloc ?_ _ | refine Gr.ext ?_ _ | refine Gr.drew ?_))⟩
  rw [if_neg (by omega)] at hR
  by_cases c3 : m = EM
  · rw [if_pos (.inl c3)] at hR
    subst hR
    subst c3
    go_enter Tryz.func144, Tryz.ntmps144
    go_upto_region 3 with (fail)
    refine wp_region_ext (by kernel_rfl) (by kernel_rfl) ?_
    repeat (go_big_quiet_step ((go_at_call 90; first | with_reducible exact Calls_ext (C90.out _) | with_reducible exact Calls_ext2 (C90.out _))))
    refine wpQuiet_nil ?_
    rintro w1 ⟨y1, rfl⟩
    try simp only [e1, e2]
    go_wp2_with (go_at_call 85; (with_reducible refine (C85.out _).mono ?_); rintro _ _ ⟨rfl, x85, rfl⟩)
    go_ret2
    exact ⟨rfl, Gr.of (by repeat (first | exact Gr.refl _ | refine Gr.alloc ?_ _ | refine Gr.ext ?_ _ | refine Gr.drew ?_))⟩
  have b3 : ((m : Int) == (EM : Int)) = false := by rw [beq_eq_false_iff_ne]; omega
  by_cases c4 : n = EM
  · rw [if_pos (.inr c4)] at hR
    subst hR
    subst c4
    go_enter Tryz.func144, Tryz.ntmps144
    go_upto_region 3 with (fail)
    refine wp_region_ext (by kernel_rfl) (by kernel_rfl) ?_
    repeat (go_big_quiet_step ((go_at_call 90; first | with_reducible exact Calls_ext (C90.out _) | with_reducible exact Calls_ext2 (C90.out _))))
    refine wpQuiet_nil ?_
    rintro w1 ⟨y1, rfl⟩
    try simp only [e1, e2]
    go_wp2_with (go_at_call 85; (with_reducible refine (C85.out _).mono ?_); rintro _ _ ⟨rfl, x85, rfl⟩)
    go_ret2
    exact ⟨rfl, Gr.of (by repeat (first | exact Gr.refl _ | refine Gr.alloc ?_ _ | refine Gr.ext ?_ _ | refine Gr.drew ?_))⟩
  have b4 : ((n : Int) == (EM : Int)) = false := by rw [beq_eq_false_iff_ne]; omega
  rw [if_neg (by omega)] at hR
  by_cases c5 : n = 0
  · rw [if_pos c5] at hR
    subst hR
    subst c5
    go_enter Tryz.func144, Tryz.ntmps144
    go_upto_region 3 with (fail)
    refine wp_region_ext (by kernel_rfl) (by kernel_rfl) ?_
    repeat (go_big_quiet_step ((go_at_call 90; first | with_reducible exact Calls_ext (C90.out _) | with_reducible exact Calls_ext2 (C90.out _))))
    refine wpQuiet_nil ?_
    rintro w1 ⟨y1, rfl⟩
    try simp only [e1, e2]
    go_wp2_with (go_at_call 85; (with_reducible refine (C85.out _).mono ?_); rintro _ _ ⟨rfl, x85, rfl⟩)
    go_ret2
    exact ⟨rfl, Gr.of (by repeat (first | exact Gr.refl _ | refine Gr.alloc ?_ _ | refine Gr.ext ?_ _ | refine Gr.drew ?_))⟩
  rw [if_neg c5] at hR
  have b5 : ((n : Int) == 0) = false := by rw [nbeq]; simp [c5]
  by_cases c6 : m = 0
  · rw [if_pos c6] at hR
    subst hR
    subst c6
    go_enter Tryz.func144, Tryz.ntmps144
    go_upto_region 3 with (fail)
    refine wp_region_ext (by kernel_rfl) (by kernel_rfl) ?_
    repeat (go_big_quiet_step ((go_at_call 90; first | with_reducible exact Calls_ext (C90.out _) | with_reducible exact Calls_ext2 (C90.out _))))
    refine wpQuiet_nil ?_
    rintro w1 ⟨y1, rfl⟩
    try simp only [e1, e2]
    go_wp2_with (go_at_call 85; (with_reducible refine (C85.out _).mono ?_); rintro _ _ ⟨rfl, x85, rfl⟩)
    go_ret2
    exact ⟨rfl, Gr.of (by repeat (first | exact Gr.refl _ | refine Gr.alloc ?_ _ | refine Gr.ext ?_ _ | refine Gr.drew ?_))⟩
  rw [if_neg c6] at hR
  have b6 : ((m : Int) == 0) = false := by rw [nbeq]; simp [c6]
  subst hR
  have A1' := hidden (A1.out c6)
  have A2' := hidden (A2.out c5)
  have C98 := hidden (Q.out c6 c5)
  clear A1 A2 Q
  go_enter Tryz.func144, Tryz.ntmps144
  go_upto_region 3 with (fail)
  refine wp_region_ext (by kernel_rfl) (by kernel_rfl) ?_
  repeat (go_big_quiet_step ((go_at_call 90; first | with_reducible exact Calls_ext (C90.out _) | with_reducible exact Calls_ext2 (C90.out _))))
  refine wpQuiet_nil ?_
  rintro w1 ⟨y1, rfl⟩
  try simp only [e1, e2]
  go_upto_region 13 with (go_at_call 85; (with_reducible refine (C85.out _).mono ?_); rintro _ _ ⟨rfl, x85, rfl⟩)
  clear e1 e2 c1 c2 c3 c4 c5 c6 b3 b4 b5 b6 hE0 bE0
  refine wp_region_ext (by kernel_rfl) (by kernel_rfl) ?_
  repeat (go_big_quiet_step (first | (go_at_call 92; first | with_reducible exact Calls_ext (U1.out _) | with_reducible exact Calls_ext2 (U1.out _) | with_reducible exact Calls_ext (U2.out _) | with_reducible exact Calls_ext2 (U2.out _)) | (go_at_call 93; first | with_reducible exact Calls_ext (A1'.out _) | with_reducible exact Calls_ext2 (A1'.out _) | with_reducible exact Calls_ext (A2'.out _) | with_reducible exact Calls_ext2 (A2'.out _)) | (go_at_call 98; first | with_reducible exact Calls_ext (C98.out _) | with_reducible exact Calls_ext2 (C98.out _))))
  refine wpQuiet_nil ?_
  rintro w3 ⟨y3, rfl⟩
  go_wp2_with (fail)
  go_ret2
  exact ⟨rfl, Gr.of (by repeat (first | exact Gr.refl _ | refine Gr.alloc ?_ _ | refine Gr.ext ?_ _ | refine Gr.drew ?_))⟩
end
end Go.Proofs.Qxb6500680aGreatDoor
