import Derived.Test.Qxb6500680aGreatDoorSf
namespace Go.Proofs.Qxb6500680aGreatDoor
open Go.RowKit Go.BigFrame
set_option linter.unusedSimpArgs false
set_option linter.unusedSectionVars false
attribute [local go_sem] ext_cell_if ext_frozen_if alloc_cell_if alloc_frozen_if ext_size ext_ext calmOp calmAt
theorem div_hl (s : Nat) : s / 2 * 18446744073709551616 + s * 9223372036854775808 % 18446744073709551616 = s * 9223372036854775808 := by omega
theorem div_hi (s s' : Nat) (hs : U64 s) (hs' : 9223372036854775808 ≤ s') : s / 2 < s' := by unfold U64 at hs; omega
theorem div_q (s s' : Nat) (hs : U64 s) (hs' : 9223372036854775808 ≤ s') : U64 (s * 9223372036854775808 / s') := by
  unfold U64
  refine (Nat.div_lt_iff_lt_mul (by omega)).2 ?_
  unfold U64 at hs
  omega
theorem half_i (s : Nat) : (s : Int) / 2 = ((s / 2 : Nat) : Int) := by omega
theorem shl63 (s : Nat) : IntKind.u64.wrap ((s : Int) * 9223372036854775808) = ((s * 9223372036854775808 % 18446744073709551616 : Nat) : Int) := by rw [IntKind.wrap_u64]; omega
section
variable {W E F BI SM MM PM HB FM EM QB MB : Nat} (k : Fk W E F BI SM MM PM HB FM EM QB MB)
include k
set_option maxRecDepth 100000 in
set_option maxHeartbeats 2000000 in
theorem Fk.div (a b : Nat) (ha : U64 a) (hb : U64 b) : Det2 SM 45 #[(.agg #[.int .u64 W, .int .u64 E, .int .u64 F]), .int .u64 a, .int .u64 b, .int .u8 0] := by
  have C90 := hidden k.c90
  have C85 := hidden k.c85
  have C89 := hidden k.c89
  have C147 := hidden (fun w => k.nanOf2 a b ha hb w)
  have C142 := hidden k.invalid
  have C143 := hidden (fun b w => k.inf b w)
  have C94 := hidden (fun b w => k.zero b w)
  have U1 := hidden (fun w => k.unpack a ha w)
  have U2 := hidden (fun w => k.unpack b hb w)
  have A1 := hidden (fun h w => k.align a h w)
  have A2 := hidden (fun h w => k.align b h w)
  have D := hidden (fun h1 h2 w => div64_eq (lsig HB MB a / 2) (lsig HB MB a * 9223372036854775808 % 18446744073709551616) (lsig HB MB b) (div_hi _ _ (k.lsig_u a h1) (k.lsig_lo b h2)) (modU _) (k.lsig_u b h2) w)
  rw [div_hl] at D
  have P := hidden (fun h1 h2 w => k.roundPack (sgn SM (a ^^^ b)) (lexp F BI HB MB a - lexp F BI HB MB b - 63) 0 (lsig HB MB a * 9223372036854775808 / lsig HB MB b) (!(lsig HB MB a * 9223372036854775808 % lsig HB MB b == 0)) (by unfold U64; decide) (div_q _ _ (k.lsig_u a h1) (k.lsig_lo b h2)) (by have := k.lexp_bd a; have := k.lexp_bd b; omega) (by have := k.lexp_bd a; have := k.lexp_bd b; omega) w)
  have C149 := hidden (fun w => wide_eq (lsig HB MB a * 9223372036854775808 / lsig HB MB b) w)
  have hRl := k.rp_lt (sgn SM (a ^^^ b)) (lexp F BI HB MB a - lexp F BI HB MB b - 63) 0 (lsig HB MB a * 9223372036854775808 / lsig HB MB b) (!(lsig HB MB a * 9223372036854775808 % lsig HB MB b == 0))
  have hx1 := w64_of (lexp F BI HB MB a - lexp F BI HB MB b) (by have := k.lexp_bd a; have := k.lexp_bd b; omega) (by have := k.lexp_bd a; have := k.lexp_bd b; omega)
  have hx2 := w64_of (lexp F BI HB MB a - lexp F BI HB MB b - 63) (by have := k.lexp_bd a; have := k.lexp_bd b; omega) (by have := k.lexp_bd a; have := k.lexp_bd b; omega)
  have hst := nbne (lsig HB MB a * 9223372036854775808 % lsig HB MB b)
  have hh := half_i (lsig HB MB a)
  have hl := shl63 (lsig HB MB a)
  generalize rpN F BI SM EM HB (sgn SM (a ^^^ b)) (lexp F BI HB MB a - lexp F BI HB MB b - 63) 0 (lsig HB MB a * 9223372036854775808 / lsig HB MB b) (!(lsig HB MB a * 9223372036854775808 % lsig HB MB b == 0)) = Q at *
  obtain ⟨q1, q2⟩ := Q
  dsimp only at P hRl
  generalize lsig HB MB a * 9223372036854775808 / lsig HB MB b = qu at *
  generalize (!(lsig HB MB a * 9223372036854775808 % lsig HB MB b == 0)) = st at *
  generalize lsig HB MB a * 9223372036854775808 % lsig HB MB b = rm at *
  generalize lsig HB MB a * 9223372036854775808 % 18446744073709551616 = L at *
  generalize lsig HB MB a / 2 = H at *
  generalize lsig HB MB a = s1 at *
  generalize lsig HB MB b = s2 at *
  generalize lexp F BI HB MB a = x1 at *
  generalize lexp F BI HB MB b = x2 at *
  generalize usig HB MB a = r1 at *
  generalize usig HB MB b = r2 at *
  generalize uexp F BI HB MB a = y1 at *
  generalize uexp F BI HB MB b = y2 at *
  obtain ⟨xs, hxs⟩ : ∃ xs, x1 - x2 = xs := ⟨_, rfl⟩
  replace hx1 : wrap64 (x1 - x2) = xs := hx1.trans hxs
  rw [hxs] at hx2 P
  obtain ⟨xt, hxt⟩ : ∃ xt, xs - 63 = xt := ⟨_, rfl⟩
  replace hx2 : wrap64 (xs - 63) = xt := hx2.trans hxt
  rw [hxt] at P
  have hdn := dnan_lt k
  have h3 := k.r3
  have hH := k.hp
  have e1 := k.aM a ha
  have e2 := k.aM b hb
  have e3 := bxor a b ha hb
  have e4 := k.sgn_ne (a ^^^ b) (Nat.xor_lt_two_pow (n := 64) ha hb)
  have hsl : ∀ b, sgw SM b ≤ SM := fun b => sgw_lt k b
  have hq1 := quiet_lt k a
  have hq2 := quiet_lt k b
  obtain ⟨m, hme⟩ : ∃ m, a % SM = m := ⟨_, rfl⟩
  rw [hme] at e1 A1 D P
  obtain ⟨n, hne⟩ : ∃ m, b % SM = m := ⟨_, rfl⟩
  rw [hne] at e2 A2 D P
  generalize sgn SM (a ^^^ b) = s at *
  generalize a ^^^ b = z at *
  generalize sgn SM a = b1 at *
  generalize sgn SM b = b2 at *
  have hnr : (if isNan EM SM a then quietN EM SM QB a else quietN EM SM QB b : Nat) < 2 * SM := by split <;> assumption
  generalize (if isNan EM SM a then quietN EM SM QB a else quietN EM SM QB b : Nat) = nr at *
  generalize (if isSig EM SM QB a || isSig EM SM QB b then 16 else 0 : Int) = nf at *
  have hE0 : EM ≠ 0 := by have h5 := k.r5; have h6 := k.r6; have h7 : HB ≤ MB * HB := Nat.le_mul_of_pos_left _ (by omega); omega
  have bE0 : ((EM : Int) == 0) = false := by rw [nbeq]; simp [hE0]
  have HX := hidden (And.intro hx1 (And.intro hx2 (And.intro hst (And.intro hh hl))))
  clear hme hne ha hb k hx1 hx2 hxs hxt hst hh hl hq1 hq2
  by_cases c1 : EM < m
  · refine ⟨nr, nf, hnr, fun w => ?_⟩
    go_enter Tryz.func45, Tryz.ntmps45
    go_upto_region 1 with (fail)
    refine wp_region_ext (by kernel_rfl) (by kernel_rfl) ?_
    repeat (go_big_quiet_step ((go_at_call 90; first | with_reducible exact Calls_ext (C90.out _) | with_reducible exact Calls_ext2 (C90.out _))))
    refine wpQuiet_nil ?_
    rintro w1 ⟨y1, rfl⟩
    try simp only [e1, e2]
    go_wp2_with (first | (go_at_call 85; (with_reducible refine (C85.out _).mono ?_); rintro _ _ ⟨rfl, x85, rfl⟩) | (go_at_call 147; (with_reducible refine (C147.out _).mono ?_); rintro _ _ ⟨rfl, x147, rfl⟩))
    go_ret2
    exact ⟨rfl, Gr.of (by repeat (first | exact Gr.refl _ | refine Gr.alloc ?_ _ | refine Gr.ext ?_ _ | refine Gr.drew ?_))⟩
  by_cases c2 : EM < n
  · refine ⟨nr, nf, hnr, fun w => ?_⟩
    go_enter Tryz.func45, Tryz.ntmps45
    go_upto_region 1 with (fail)
    refine wp_region_ext (by kernel_rfl) (by kernel_rfl) ?_
    repeat (go_big_quiet_step ((go_at_call 90; first | with_reducible exact Calls_ext (C90.out _) | with_reducible exact Calls_ext2 (C90.out _))))
    refine wpQuiet_nil ?_
    rintro w1 ⟨y1, rfl⟩
    try simp only [e1, e2]
    go_wp2_with (first | (go_at_call 85; (with_reducible refine (C85.out _).mono ?_); rintro _ _ ⟨rfl, x85, rfl⟩) | (go_at_call 147; (with_reducible refine (C147.out _).mono ?_); rintro _ _ ⟨rfl, x147, rfl⟩))
    go_ret2
    exact ⟨rfl, Gr.of (by repeat (first | exact Gr.refl _ | refine Gr.alloc ?_ _ | refine Gr.ext ?_ _ | refine Gr.drew ?_))⟩
  clear C147
  by_cases c3 : m = EM
  · subst c3
    by_cases c4 : n = m
    · subst c4
      refine ⟨n ||| QB, 16, hdn, fun w => ?_⟩
      go_enter Tryz.func45, Tryz.ntmps45
      go_upto_region 1 with (fail)
      refine wp_region_ext (by kernel_rfl) (by kernel_rfl) ?_
      repeat (go_big_quiet_step ((go_at_call 90; first | with_reducible exact Calls_ext (C90.out _) | with_reducible exact Calls_ext2 (C90.out _))))
      refine wpQuiet_nil ?_
      rintro w1 ⟨y1, rfl⟩
      try simp only [e1, e2]
      go_wp2_with (first | (go_at_call 85; (with_reducible refine (C85.out _).mono ?_); rintro _ _ ⟨rfl, x85, rfl⟩) | (go_at_call 89; (with_reducible refine (C89.out _).mono ?_); rintro _ _ ⟨rfl, x89, rfl⟩) | (go_at_call 142; (with_reducible refine (C142.out _).mono ?_); rintro _ _ ⟨rfl, x142, rfl⟩))
      go_ret2
      exact ⟨rfl, Gr.of (by repeat (first | exact Gr.refl _ | refine Gr.alloc ?_ _ | refine Gr.ext ?_ _ | refine Gr.drew ?_))⟩
    · have b4 : ((n : Int) == (m : Int)) = false := by rw [beq_eq_false_iff_ne]; omega
      refine ⟨m + sgw SM s, 0, by have := hsl s; omega, fun w => ?_⟩
      go_enter Tryz.func45, Tryz.ntmps45
      go_upto_region 1 with (fail)
      refine wp_region_ext (by kernel_rfl) (by kernel_rfl) ?_
      repeat (go_big_quiet_step ((go_at_call 90; first | with_reducible exact Calls_ext (C90.out _) | with_reducible exact Calls_ext2 (C90.out _))))
      refine wpQuiet_nil ?_
      rintro w1 ⟨y1, rfl⟩
      try simp only [e1, e2]
      go_wp2_with (first | (go_at_call 85; (with_reducible refine (C85.out _).mono ?_); rintro _ _ ⟨rfl, x85, rfl⟩) | (go_at_call 89; (with_reducible refine (C89.out _).mono ?_); rintro _ _ ⟨rfl, x89, rfl⟩) | (go_at_call 143; (with_reducible refine (C143.out _ _).mono ?_); rintro _ _ ⟨rfl, x143, rfl⟩))
      go_ret2
      exact ⟨rfl, Gr.of (by repeat (first | exact Gr.refl _ | refine Gr.alloc ?_ _ | refine Gr.ext ?_ _ | refine Gr.drew ?_))⟩
  have b3 : ((m : Int) == (EM : Int)) = false := by rw [beq_eq_false_iff_ne]; omega
  by_cases c5 : m = 0
  · subst c5
    by_cases c6 : n = 0
    · subst c6
      refine ⟨EM ||| QB, 16, hdn, fun w => ?_⟩
      go_enter Tryz.func45, Tryz.ntmps45
      go_upto_region 1 with (fail)
      refine wp_region_ext (by kernel_rfl) (by kernel_rfl) ?_
      repeat (go_big_quiet_step ((go_at_call 90; first | with_reducible exact Calls_ext (C90.out _) | with_reducible exact Calls_ext2 (C90.out _))))
      refine wpQuiet_nil ?_
      rintro w1 ⟨y1, rfl⟩
      try simp only [e1, e2]
      go_wp2_with (first | (go_at_call 85; (with_reducible refine (C85.out _).mono ?_); rintro _ _ ⟨rfl, x85, rfl⟩) | (go_at_call 89; (with_reducible refine (C89.out _).mono ?_); rintro _ _ ⟨rfl, x89, rfl⟩) | (go_at_call 142; (with_reducible refine (C142.out _).mono ?_); rintro _ _ ⟨rfl, x142, rfl⟩))
      go_ret2
      exact ⟨rfl, Gr.of (by repeat (first | exact Gr.refl _ | refine Gr.alloc ?_ _ | refine Gr.ext ?_ _ | refine Gr.drew ?_))⟩
    · have b6 : ((n : Int) == 0) = false := by rw [nbeq]; simp [c6]
      refine ⟨sgw SM s, 0, by have := hsl s; omega, fun w => ?_⟩
      by_cases c4 : n = EM
      · subst c4
        go_enter Tryz.func45, Tryz.ntmps45
        go_upto_region 1 with (fail)
        refine wp_region_ext (by kernel_rfl) (by kernel_rfl) ?_
        repeat (go_big_quiet_step ((go_at_call 90; first | with_reducible exact Calls_ext (C90.out _) | with_reducible exact Calls_ext2 (C90.out _))))
        refine wpQuiet_nil ?_
        rintro w1 ⟨y1, rfl⟩
        try simp only [e1, e2]
        go_wp2_with (first | (go_at_call 85; (with_reducible refine (C85.out _).mono ?_); rintro _ _ ⟨rfl, x85, rfl⟩) | (go_at_call 89; (with_reducible refine (C89.out _).mono ?_); rintro _ _ ⟨rfl, x89, rfl⟩) | (go_at_call 94; (with_reducible refine (C94.out _ _).mono ?_); rintro _ _ ⟨rfl, x94, rfl⟩))
        go_ret2
        exact ⟨rfl, Gr.of (by repeat (first | exact Gr.refl _ | refine Gr.alloc ?_ _ | refine Gr.ext ?_ _ | refine Gr.drew ?_))⟩
      · have b4 : ((n : Int) == (EM : Int)) = false := by rw [beq_eq_false_iff_ne]; omega
        go_enter Tryz.func45, Tryz.ntmps45
        go_upto_region 1 with (fail)
        refine wp_region_ext (by kernel_rfl) (by kernel_rfl) ?_
        repeat (go_big_quiet_step ((go_at_call 90; first | with_reducible exact Calls_ext (C90.out _) | with_reducible exact Calls_ext2 (C90.out _))))
        refine wpQuiet_nil ?_
        rintro w1 ⟨y1, rfl⟩
        try simp only [e1, e2]
        go_wp2_with (first | (go_at_call 85; (with_reducible refine (C85.out _).mono ?_); rintro _ _ ⟨rfl, x85, rfl⟩) | (go_at_call 89; (with_reducible refine (C89.out _).mono ?_); rintro _ _ ⟨rfl, x89, rfl⟩) | (go_at_call 94; (with_reducible refine (C94.out _ _).mono ?_); rintro _ _ ⟨rfl, x94, rfl⟩))
        go_ret2
        exact ⟨rfl, Gr.of (by repeat (first | exact Gr.refl _ | refine Gr.alloc ?_ _ | refine Gr.ext ?_ _ | refine Gr.drew ?_))⟩
  have b5 : ((m : Int) == 0) = false := by rw [nbeq]; simp [c5]
  by_cases c4 : n = EM
  · subst c4
    refine ⟨sgw SM s, 0, by have := hsl s; omega, fun w => ?_⟩
    go_enter Tryz.func45, Tryz.ntmps45
    go_upto_region 1 with (fail)
    refine wp_region_ext (by kernel_rfl) (by kernel_rfl) ?_
    repeat (go_big_quiet_step ((go_at_call 90; first | with_reducible exact Calls_ext (C90.out _) | with_reducible exact Calls_ext2 (C90.out _))))
    refine wpQuiet_nil ?_
    rintro w1 ⟨y1, rfl⟩
    try simp only [e1, e2]
    go_wp2_with (first | (go_at_call 85; (with_reducible refine (C85.out _).mono ?_); rintro _ _ ⟨rfl, x85, rfl⟩) | (go_at_call 89; (with_reducible refine (C89.out _).mono ?_); rintro _ _ ⟨rfl, x89, rfl⟩) | (go_at_call 94; (with_reducible refine (C94.out _ _).mono ?_); rintro _ _ ⟨rfl, x94, rfl⟩))
    go_ret2
    exact ⟨rfl, Gr.of (by repeat (first | exact Gr.refl _ | refine Gr.alloc ?_ _ | refine Gr.ext ?_ _ | refine Gr.drew ?_))⟩
  have b4 : ((n : Int) == (EM : Int)) = false := by rw [beq_eq_false_iff_ne]; omega
  by_cases c6 : n = 0
  · subst c6
    refine ⟨EM + sgw SM s, 8, by have := hsl s; omega, fun w => ?_⟩
    go_enter Tryz.func45, Tryz.ntmps45
    go_upto_region 1 with (fail)
    refine wp_region_ext (by kernel_rfl) (by kernel_rfl) ?_
    repeat (go_big_quiet_step ((go_at_call 90; first | with_reducible exact Calls_ext (C90.out _) | with_reducible exact Calls_ext2 (C90.out _))))
    refine wpQuiet_nil ?_
    rintro w1 ⟨y1, rfl⟩
    try simp only [e1, e2]
    go_wp2_with (first | (go_at_call 85; (with_reducible refine (C85.out _).mono ?_); rintro _ _ ⟨rfl, x85, rfl⟩) | (go_at_call 89; (with_reducible refine (C89.out _).mono ?_); rintro _ _ ⟨rfl, x89, rfl⟩) | (go_at_call 143; (with_reducible refine (C143.out _ _).mono ?_); rintro _ _ ⟨rfl, x143, rfl⟩))
    go_ret2
    exact ⟨rfl, Gr.of (by repeat (first | exact Gr.refl _ | refine Gr.alloc ?_ _ | refine Gr.ext ?_ _ | refine Gr.drew ?_))⟩
  have b6 : ((n : Int) == 0) = false := by rw [nbeq]; simp [c6]
  refine ⟨q1, q2, hRl, fun w => ?_⟩
  have A1' := hidden (A1.out c5)
  have A2' := hidden (A2.out c6)
  have C148 := hidden (D.out c5 c6)
  have C97 : Hid (∀ w, Calls Tryz.prog 97 #[(.agg #[.int .u64 W, .int .u64 E, .int .u64 F]), .int .u8 0, .bool s, .int .i64 xt, .agg #[.int .u64 0, .int .u64 (qu : Nat)], .bool st] w (Rt (.tuple #[.int .u64 (q1 : Nat), .int .u8 q2]) w)) := hidden (P.out c5 c6)
  clear hsl hdn hRl hnr A1 A2 D P
  go_enter Tryz.func45, Tryz.ntmps45
  go_upto_region 1 with (fail)
  refine wp_region_ext (by kernel_rfl) (by kernel_rfl) ?_
  repeat (go_big_quiet_step ((go_at_call 90; first | with_reducible exact Calls_ext (C90.out _) | with_reducible exact Calls_ext2 (C90.out _))))
  refine wpQuiet_nil ?_
  rintro w1 ⟨y1, rfl⟩
  try simp only [e1, e2]
  go_upto_region 16 with (first | (go_at_call 85; (with_reducible refine (C85.out _).mono ?_); rintro _ _ ⟨rfl, x85, rfl⟩) | (go_at_call 89; (with_reducible refine (C89.out _).mono ?_); rintro _ _ ⟨rfl, x89, rfl⟩))
  refine wp_gen (fun Wx => Wx.cell? ⟨w.heap.size, 0, none⟩ = some (.int .u64 W) ∧ Wx.cell? ⟨w.heap.size, 1, none⟩ = some (.int .u64 E) ∧ Wx.cell? ⟨w.heap.size, 2, none⟩ = some (.int .u64 F) ∧ w.heap.size < Wx.heap.size ∧ Gr w.heap.size w Wx) ⟨by simp [go_sem, ↓IntWalk.iteOmega], by simp [go_sem, ↓IntWalk.iteOmega], by simp [go_sem, ↓IntWalk.iteOmega], by simp [go_sem]; try omega, (by repeat (first | exact Gr.refl _ | refine Gr.alloc ?_ _ | refine Gr.ext ?_ _ | refine Gr.drew ?_))⟩ ?_
  rintro w2 ⟨k0, k1, k2, hlt, hgr⟩
  obtain ⟨C, hC⟩ : ∃ C, w.heap.size = C := ⟨_, rfl⟩
  rw [hC] at k0 k1 k2 hlt
  try rw [hC]
  clear e1 e2 e3 e4 c1 c2 c3 c4 c5 c6 b3 b4 b5 b6 hE0 bE0 h3 hH
  refine wp_region_floatc 8 10 [⟨8, 14, .cells #[.bool false, .int .i64 0, .int .u64 0] 57⟩, ⟨9, 15, .cells #[.bool false, .int .i64 0, .int .u64 0] 57⟩] (by kernel_rfl) (by kernel_rfl) (by kernel_rfl) (by simp [go_sem]) ?_
  simp only [List.take_succ_cons, List.take_zero, List.drop_succ_cons, List.drop_zero]
  repeat (refine wpCalm_step (fun K hK => ?_); go_simp; first | (refine hK _ ?_; clear hK K) | (apply Exists.intro; refine ⟨fun _ => ?_, hK _ ?_⟩; (first | (go_at_call 92; first | with_reducible exact Calls_ext3 (U1.out _) | with_reducible exact Calls_ext3 (U2.out _)) | (go_at_call 93; first | with_reducible exact Calls_ext3 (A1'.out _) | with_reducible exact Calls_ext3 (A2'.out _))); clear hK K))
  refine wpCalm_nil ?_
  intro bb Wm hM
  obtain ⟨m1, m2, m3, m4, m5, m6⟩ := hM.two (by decide)
  simp only [actOf_cons, actOf_nil, if_true] at m1 m2 m3 m4 m5 ⊢
  generalize bb 8 = b8 at *
  generalize bb 9 = b9 at *
  clear hM bb
  have hlt8 := lt_of_cells m2
  have hlt9 := lt_of_cells m4
  have z0 := cell_of_cells m2 0
  have z1 := cell_of_cells m2 1
  have z2 := cell_of_cells m2 2
  have y0 := mark_of_cells m2
  have v0 := cell_of_cells m4 0
  have v1 := cell_of_cells m4 1
  have v2 := cell_of_cells m4 2
  have y1 := mark_of_cells m4
  have j0 : Wm.cell? ⟨C, 0, none⟩ = some (.int .u64 W) := (m6.1.cell (p := ⟨C, 0, none⟩) hlt).trans k0
  have j1 : Wm.cell? ⟨C, 1, none⟩ = some (.int .u64 E) := (m6.1.cell (p := ⟨C, 1, none⟩) hlt).trans k1
  have j2 : Wm.cell? ⟨C, 2, none⟩ = some (.int .u64 F) := (m6.1.cell (p := ⟨C, 2, none⟩) hlt).trans k2
  have hgrW : Gr w.heap.size w Wm := ⟨hgr.1.trans (m6.1.mono hgr.2), Nat.le_trans hgr.2 m6.2⟩
  have hb8 : w.heap.size ≤ b8 := Nat.le_trans hgr.2 m1
  have hb9 : w.heap.size ≤ b9 := Nat.le_trans hgr.2 m3
  have hC8 : C ≠ b8 := by omega
  have hC9 : C ≠ b9 := by omega
  clear m6 k0 k1 k2 hgr
  simp at z0 z1 z2 v0 v1 v2
  simp only [Act.put]
  go_upto_region 17 with (fail)
  refine wp_gen (fun W2 => W2.heap[b8]? = some (.cells #[.bool b1, .int .i64 x1, .int .u64 (s1 : Nat)] 57) ∧ W2.heap[b9]? = some (.cells #[.bool b2, .int .i64 x2, .int .u64 (s2 : Nat)] 57) ∧ W2.cell? ⟨C, 0, none⟩ = some (.int .u64 W) ∧ W2.cell? ⟨C, 1, none⟩ = some (.int .u64 E) ∧ W2.cell? ⟨C, 2, none⟩ = some (.int .u64 F) ∧ C < W2.heap.size ∧ Gr w.heap.size w W2) ⟨?_, ?_, ?_, ?_, ?_, ?_, ?_⟩ ?_
  · have := blk_set (blk_set (blk_set m2 0 (.bool b1)) 1 (.int .i64 x1)) 2 (.int .u64 (s1 : Nat))
    rw [blk_far m5, blk_far m5, blk_far m5]
    refine this.trans ?_
    simp
  · have m4' : (((Wm.setCell ⟨b8, 0, none⟩ (.bool b1)).setCell ⟨b8, 1, none⟩ (.int .i64 x1)).setCell ⟨b8, 2, none⟩ (.int .u64 (s1 : Nat))).heap[b9]? = some (.cells #[.bool false, .int .i64 0, .int .u64 0] 57) := by
      rw [blk_far m5.symm, blk_far m5.symm, blk_far m5.symm]; exact m4
    have := blk_set (blk_set (blk_set m4' 0 (.bool b2)) 1 (.int .i64 x2)) 2 (.int .u64 (s2 : Nat))
    refine this.trans ?_
    simp
  · simp only [cell_far hC8, cell_far hC9]; exact j0
  · simp only [cell_far hC8, cell_far hC9]; exact j1
  · simp only [cell_far hC8, cell_far hC9]; exact j2
  · simp only [size_setCell]; omega
  · exact (((((hgrW.setCell hb8 _).setCell hb8 _).setCell hb8 _).setCell hb9 _).setCell hb9 _).setCell hb9 _
  clear hgrW j0 j1 j2 z0 z1 z2 y0 v0 v1 v2 y1 hlt8 hlt9 m1 m2 m3 m4 hC8 hC9 hlt
  rintro W2 ⟨B8, B9, j0, j1, j2, hlt, hgr⟩
  have hlt8 := lt_of_cells B8
  have hlt9 := lt_of_cells B9
  have z0 := cell_of_cells B8 0
  have z1 := cell_of_cells B8 1
  have z2 := cell_of_cells B8 2
  have v0 := cell_of_cells B9 0
  have v1 := cell_of_cells B9 1
  have v2 := cell_of_cells B9 2
  simp at z0 z1 z2 v0 v1 v2
  have HGr := hidden hgr
  clear hgr hb8 hb9
  obtain ⟨hx1, hx2, hst, hh, hl⟩ := HX.out
  go_upto_region 18 with (go_at_call 148; (with_reducible refine (C148.out _).mono ?_); rintro _ _ ⟨rfl, x148, rfl⟩)
  refine wp_region_ext (by kernel_rfl) (by kernel_rfl) ?_
  repeat (go_big_quiet_step ((first | (go_at_call 149; first | with_reducible exact Calls_ext (C149.out _) | with_reducible exact Calls_ext2 (C149.out _)) | (go_at_call 97; first | with_reducible exact Calls_ext (C97.out _) | with_reducible exact Calls_ext2 (C97.out _)))))
  refine wpQuiet_nil ?_
  rintro w3 ⟨y3, rfl⟩
  go_wp2_with (fail)
  go_ret2
  exact ⟨rfl, Gr.of (by repeat (first | exact HGr.out | refine Gr.alloc ?_ _ | refine Gr.ext ?_ _ | refine Gr.drew ?_))⟩
end
end Go.Proofs.Qxb6500680aGreatDoor
