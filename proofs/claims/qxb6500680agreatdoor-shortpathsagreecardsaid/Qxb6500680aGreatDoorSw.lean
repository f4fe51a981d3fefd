import Derived.Test.Qxb6500680aGreatDoorSv
namespace Go.Proofs.Qxb6500680aGreatDoor
open Go.RowKit Go.BigFrame
set_option linter.unusedSimpArgs false
set_option linter.unusedSectionVars false
attribute [local go_sem] ext_cell_if ext_frozen_if alloc_cell_if alloc_frozen_if ext_size ext_ext
theorem wide_eq (y : Nat) (w : World) : Calls Tryz.prog 149 #[.int .u64 y] w (Rt (.agg #[.int .u64 0, .int .u64 y]) w) := (wide64_any y w).mono fun _ _ h => h
theorem abs_u (n : Int) (h0 : -9223372036854775808 ≤ n) (h1 : n ≤ 9223372036854775807) : U64 n.natAbs := by unfold U64; omega
theorem modU (n : Nat) : U64 (n % 18446744073709551616) := Nat.mod_lt _ (by decide)
theorem mulU {x y : Nat} (hx : U64 x) (hy : U64 y) : U64 (x * y / 18446744073709551616) := (Nat.div_lt_iff_lt_mul (by decide)).2 (Nat.mul_lt_mul_of_lt_of_lt hx hy)
def mulIntN (F BI SM EM HB QB MB : Nat) (n : Int) (p : Nat) : Nat × Int :=
  if EM < p % SM then (quietN EM SM QB p, if isSig EM SM QB p then 16 else 0)
  else if p % SM = EM then (if n = 0 then (EM ||| QB, 16) else (EM + sgw SM (sgn SM p != decide (n < 0)), 0))
  else if p % SM = 0 ∨ n = 0 then (sgw SM (sgn SM p != decide (n < 0)), 0)
  else rpN F BI SM EM HB (sgn SM p != decide (n < 0)) (uexp F BI HB MB p) (usig HB MB p * n.natAbs / 18446744073709551616) (usig HB MB p * n.natAbs % 18446744073709551616) false
section
variable {W E F BI SM MM PM HB FM EM QB MB : Nat} (k : Fk W E F BI SM MM PM HB FM EM QB MB)
include k
theorem Fk.usig_lt (p : Nat) : usig HB MB p < 2 * HB := by
  have h := Nat.mod_lt p k.hp
  unfold usig
  split <;> omega
theorem Fk.usig_u (p : Nat) : U64 (usig HB MB p) := by
  have h := k.usig_lt p
  have h2 := k.s63
  have h3 := k.r3
  unfold U64
  omega
theorem Fk.uexp_bd (p : Nat) : -2000 ≤ uexp F BI HB MB p ∧ uexp F BI HB MB p ≤ 2000 := by
  have h1 := k.b2
  have h2 := k.b4
  have h3 := k.r6
  have h4 := Nat.mod_lt (p / HB) (show 0 < MB + 1 by omega)
  unfold uexp
  generalize p / HB % (MB + 1) = z at h4
  split <;> omega
set_option maxRecDepth 100000 in
theorem Fk.fromInt (n : Int) (h0 : -9223372036854775808 ≤ n) (h1 : n ≤ 9223372036854775807) (w : World) : Calls Tryz.prog 48 #[(.agg #[.int .u64 W, .int .u64 E, .int .u64 F]), .int .i64 n, .int .u8 0] w (Rt (.tuple #[.int .u64 ((rpN F BI SM EM HB (decide (n < 0)) 0 0 n.natAbs false).1 : Nat), .int .u8 (rpN F BI SM EM HB (decide (n < 0)) 0 0 n.natAbs false).2]) w) := by
  have C96 := hidden (fun w => abs64 n h0 h1 w)
  have C149 := hidden (fun w => wide_eq n.natAbs w)
  have C97 : Hid (∀ w, Calls Tryz.prog 97 #[(.agg #[.int .u64 W, .int .u64 E, .int .u64 F]), .int .u8 0, .bool (decide (n < 0)), .int .i64 0, .agg #[.int .u64 0, .int .u64 (n.natAbs : Nat)], .bool false] w (Rt (.tuple #[.int .u64 ((rpN F BI SM EM HB (decide (n < 0)) 0 0 n.natAbs false).1 : Nat), .int .u8 (rpN F BI SM EM HB (decide (n < 0)) 0 0 n.natAbs false).2]) w)) := hidden (fun w => k.roundPack (decide (n < 0)) 0 0 n.natAbs false (by unfold U64; omega) (abs_u n h0 h1) (by omega) (by omega) w)
  generalize rpN F BI SM EM HB (decide (n < 0)) 0 0 n.natAbs false = R at *
  obtain ⟨r1, r2⟩ := R
  dsimp only at C97 ⊢
  generalize n.natAbs = m at *
  obtain ⟨ng, hng⟩ : ∃ ng, decide (n < 0) = ng := ⟨_, rfl⟩
  rw [hng] at C97
  clear k h0 h1
  go_enter Tryz.func48, Tryz.ntmps48
  go_upto_region 1 with (fail)
  refine wp_region_ext (by kernel_rfl) (by kernel_rfl) ?_
  repeat (go_big_quiet_step ((first | (go_at_call 96; first | with_reducible exact Calls_ext (C96.out _) | with_reducible exact Calls_ext2 (C96.out _)) | (go_at_call 149; first | with_reducible exact Calls_ext (C149.out _) | with_reducible exact Calls_ext2 (C149.out _)) | (go_at_call 97; first | with_reducible exact Calls_ext (C97.out _) | with_reducible exact Calls_ext2 (C97.out _)))))
  refine wpQuiet_nil ?_
  rintro w1 ⟨y1, rfl⟩
  go_wp2_with (fail)
  go_ret2
  exact ⟨rfl, Gr.of (by repeat (first | exact Gr.refl _ | refine Gr.alloc ?_ _ | refine Gr.ext ?_ _ | refine Gr.drew ?_))⟩
set_option maxRecDepth 100000 in
theorem Fk.mulInt (n : Int) (p : Nat) (h0 : -9223372036854775808 ≤ n) (h1 : n ≤ 9223372036854775807) (hp : U64 p) (w : World) : Calls Tryz.prog 35 #[(.agg #[.int .u64 W, .int .u64 E, .int .u64 F]), .int .i64 n, .int .u64 p, .int .u8 0] w (Rt (.tuple #[.int .u64 ((mulIntN F BI SM EM HB QB MB n p).1 : Nat), .int .u8 (mulIntN F BI SM EM HB QB MB n p).2]) w) := by
  have C90 := hidden k.c90
  have C85 := hidden k.c85
  have C89 := hidden k.c89
  have C141 := hidden (fun w => k.nanOf1 p hp w)
  have C142 := hidden k.invalid
  have C143 := hidden (fun b w => k.inf b w)
  have C94 := hidden (fun b w => k.zero b w)
  have C92 := hidden (fun w => k.unpack p hp w)
  have C96 := hidden (fun w => abs64 n h0 h1 w)
  have C95 := hidden (fun w => mul128 (usig HB MB p) n.natAbs (k.usig_u p) (abs_u n h0 h1) w)
  have C97 := hidden (fun w => k.roundPack (sgn SM p != decide (n < 0)) (uexp F BI HB MB p) (usig HB MB p * n.natAbs / 18446744073709551616) (usig HB MB p * n.natAbs % 18446744073709551616) false (mulU (k.usig_u p) (abs_u n h0 h1)) (modU _) (by have := k.uexp_bd p; omega) (by have := k.uexp_bd p; omega) w)
  have e1 := k.aM p hp
  have e2 := k.sgn_ne p hp
  obtain ⟨R, hR⟩ : ∃ R, mulIntN F BI SM EM HB QB MB n p = R := ⟨_, rfl⟩
  rw [hR]
  unfold mulIntN at hR
  generalize rpN F BI SM EM HB (sgn SM p != decide (n < 0)) (uexp F BI HB MB p) (usig HB MB p * n.natAbs / 18446744073709551616) (usig HB MB p * n.natAbs % 18446744073709551616) false = Q at *
  obtain ⟨q1, q2⟩ := Q
  dsimp only at C97
  generalize usig HB MB p * n.natAbs / 18446744073709551616 = H at *
  generalize usig HB MB p * n.natAbs % 18446744073709551616 = L at *
  generalize usig HB MB p = sg at *
  generalize uexp F BI HB MB p = ex at *
  generalize n.natAbs = na at *
  generalize quietN EM SM QB p = qt at *
  obtain ⟨fl, hfl⟩ : ∃ fl : Int, (if isSig EM SM QB p then 16 else 0) = fl := ⟨_, rfl⟩
  rw [hfl] at C141 hR
  obtain ⟨m, hme⟩ : ∃ m, p % SM = m := ⟨_, rfl⟩
  rw [hme] at e1 hR
  obtain ⟨s, hse⟩ : ∃ s, sgn SM p = s := ⟨_, rfl⟩
  rw [hse] at e2 hR C97 C92
  obtain ⟨d, hd⟩ : ∃ d, decide (n < 0) = d := ⟨_, rfl⟩
  rw [hd] at hR C97
  obtain ⟨ng, hng⟩ : ∃ ng, (s != d) = ng := ⟨_, rfl⟩
  rw [hng] at hR C97
  have hng2 : (!(s == d)) = ng := hng
  clear hng
  clear k hp h0 h1 hme hse hfl
  by_cases c1 : EM < m
  · rw [if_pos c1] at hR
    subst hR
    go_enter Tryz.func35, Tryz.ntmps35
    go_wp2_with (first | (go_at_call 90; (with_reducible refine (C90.out _).mono ?_); rintro _ _ ⟨rfl, x90, rfl⟩) | (go_at_call 85; (with_reducible refine (C85.out _).mono ?_); rintro _ _ ⟨rfl, x85, rfl⟩) | (go_at_call 141; (with_reducible refine (C141.out _).mono ?_); rintro _ _ ⟨rfl, x141, rfl⟩))
    go_ret2
    exact ⟨rfl, Gr.of (by repeat (first | exact Gr.refl _ | refine Gr.alloc ?_ _ | refine Gr.ext ?_ _ | refine Gr.drew ?_))⟩
  rw [if_neg c1] at hR
  by_cases c2 : m = EM
  · rw [if_pos c2] at hR
    subst c2
    by_cases c3 : n = 0
    · rw [if_pos c3] at hR
      subst hR
      subst c3
      go_enter Tryz.func35, Tryz.ntmps35
      go_wp2_with (first | (go_at_call 90; (with_reducible refine (C90.out _).mono ?_); rintro _ _ ⟨rfl, x90, rfl⟩) | (go_at_call 85; (with_reducible refine (C85.out _).mono ?_); rintro _ _ ⟨rfl, x85, rfl⟩) | (go_at_call 89; (with_reducible refine (C89.out _).mono ?_); rintro _ _ ⟨rfl, x89, rfl⟩) | (go_at_call 142; (with_reducible refine (C142.out _).mono ?_); rintro _ _ ⟨rfl, x142, rfl⟩))
      go_ret2
      exact ⟨rfl, Gr.of (by repeat (first | exact Gr.refl _ | refine Gr.alloc ?_ _ | refine Gr.ext ?_ _ | refine Gr.drew ?_))⟩
    · rw [if_neg c3] at hR
      subst hR
      go_enter Tryz.func35, Tryz.ntmps35
      go_wp2_with (first | (go_at_call 90; (with_reducible refine (C90.out _).mono ?_); rintro _ _ ⟨rfl, x90, rfl⟩) | (go_at_call 85; (with_reducible refine (C85.out _).mono ?_); rintro _ _ ⟨rfl, x85, rfl⟩) | (go_at_call 89; (with_reducible refine (C89.out _).mono ?_); rintro _ _ ⟨rfl, x89, rfl⟩) | (go_at_call 143; (with_reducible refine (C143.out _ _).mono ?_); rintro _ _ ⟨rfl, x143, rfl⟩))
      go_ret2
      exact ⟨rfl, Gr.of (by repeat (first | exact Gr.refl _ | refine Gr.alloc ?_ _ | refine Gr.ext ?_ _ | refine Gr.drew ?_))⟩
  rw [if_neg c2] at hR
  by_cases c3 : m = 0
  · rw [if_pos (.inl c3)] at hR
    subst hR
    subst c3
    go_enter Tryz.func35, Tryz.ntmps35
    go_wp2_with (first | (go_at_call 90; (with_reducible refine (C90.out _).mono ?_); rintro _ _ ⟨rfl, x90, rfl⟩) | (go_at_call 85; (with_reducible refine (C85.out _).mono ?_); rintro _ _ ⟨rfl, x85, rfl⟩) | (go_at_call 89; (with_reducible refine (C89.out _).mono ?_); rintro _ _ ⟨rfl, x89, rfl⟩) | (go_at_call 94; (with_reducible refine (C94.out _ _).mono ?_); rintro _ _ ⟨rfl, x94, rfl⟩))
    go_ret2
    exact ⟨rfl, Gr.of (by repeat (first | exact Gr.refl _ | refine Gr.alloc ?_ _ | refine Gr.ext ?_ _ | refine Gr.drew ?_))⟩
  have b3 : ((m : Int) == 0) = false := by rw [nbeq]; simp [c3]
  by_cases c4 : n = 0
  · rw [if_pos (.inr c4)] at hR
    subst hR
    subst c4
    obtain rfl : d = false := by rw [← hd]; rfl
    obtain rfl : ng = s := by rw [← hng2]; cases s <;> rfl
    clear hd hng2
    go_enter Tryz.func35, Tryz.ntmps35
    go_wp2_with (first | (go_at_call 90; (with_reducible refine (C90.out _).mono ?_); rintro _ _ ⟨rfl, x90, rfl⟩) | (go_at_call 85; (with_reducible refine (C85.out _).mono ?_); rintro _ _ ⟨rfl, x85, rfl⟩) | (go_at_call 89; (with_reducible refine (C89.out _).mono ?_); rintro _ _ ⟨rfl, x89, rfl⟩) | (go_at_call 94; (with_reducible refine (C94.out _ _).mono ?_); rintro _ _ ⟨rfl, x94, rfl⟩))
    go_ret2
    exact ⟨rfl, Gr.of (by repeat (first | exact Gr.refl _ | refine Gr.alloc ?_ _ | refine Gr.ext ?_ _ | refine Gr.drew ?_))⟩
  rw [if_neg (by rintro (h | h); exact c3 h; exact c4 h)] at hR
  subst hR
  have b4 : (n == 0) = false := by simp [c4]
  go_enter Tryz.func35, Tryz.ntmps35
  go_upto_region 12 with (first | (go_at_call 90; (with_reducible refine (C90.out _).mono ?_); rintro _ _ ⟨rfl, x90, rfl⟩) | (go_at_call 85; (with_reducible refine (C85.out _).mono ?_); rintro _ _ ⟨rfl, x85, rfl⟩) | (go_at_call 89; (with_reducible refine (C89.out _).mono ?_); rintro _ _ ⟨rfl, x89, rfl⟩) | (go_at_call 92; (with_reducible refine (C92.out _).mono ?_); rintro _ _ ⟨rfl, x92, rfl⟩))
  refine wp_region_ext (by kernel_rfl) (by kernel_rfl) ?_
  repeat (go_big_quiet_step ((first | (go_at_call 96; first | with_reducible exact Calls_ext (C96.out _) | with_reducible exact Calls_ext2 (C96.out _)) | (go_at_call 95; first | with_reducible exact Calls_ext (C95.out _) | with_reducible exact Calls_ext2 (C95.out _)) | (go_at_call 97; first | with_reducible exact Calls_ext (C97.out _) | with_reducible exact Calls_ext2 (C97.out _)))))
  refine wpQuiet_nil ?_
  rintro w1 ⟨y1, rfl⟩
  go_wp2_with (fail)
  go_ret2
  exact ⟨rfl, Gr.of (by repeat (first | exact Gr.refl _ | refine Gr.alloc ?_ _ | refine Gr.ext ?_ _ | refine Gr.drew ?_))⟩
end
end Go.Proofs.Qxb6500680aGreatDoor
