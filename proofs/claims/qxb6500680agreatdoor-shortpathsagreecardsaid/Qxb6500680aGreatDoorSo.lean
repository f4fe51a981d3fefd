import Derived.Test.Qxb6500680aGreatDoorSn
namespace Go.Proofs.Qxb6500680aGreatDoor
open Go.RowKit Go.BigFrame
set_option linter.unusedSimpArgs false
set_option linter.unusedSectionVars false
attribute [local go_sem] ext_cell_if ext_frozen_if alloc_cell_if alloc_frozen_if ext_size ext_ext
set_option maxRecDepth 100000 in
theorem leftAlign_eq (b : Bool) (x : Int) (y : Nat) (hy : U64 y) (h0 : y ≠ 0) (hx0 : -100000 ≤ x) (hx1 : x ≤ 100000) (w : World) : Calls Tryz.prog 93 #[.agg #[.bool b, .int .i64 x, .int .u64 y]] w (Rt (.agg #[.bool b, .int .i64 (x - (64 - Lib.bitLen y : Nat)), .int .u64 (y * 2 ^ (64 - Lib.bitLen y) : Nat)]) w) := by
  have hy' : y ≤ 18446744073709551615 := by unfold U64 at hy; omega
  have LZ := hidden (lz_any y hy')
  obtain ⟨_, hl, h3, h4⟩ := align y hy' h0
  generalize Lib.bitLen y = L at *
  obtain ⟨S, hS, hS1⟩ : ∃ S : Nat, (64 : Int) - (L : Int) = S ∧ 64 - L = S := ⟨64 - L, by omega, rfl⟩
  rw [hS] at LZ
  rw [hS1] at h3 h4 ⊢
  have hSb : S ≤ 64 := by omega
  obtain ⟨Y, hY⟩ : ∃ Y, y * 2 ^ S = Y := ⟨_, rfl⟩
  rw [hY] at h3 h4 ⊢
  have hs : IntKind.u64.wrap ((y : Int) * 2 ^ S) = (Y : Nat) := by
    rw [show (y : Int) * 2 ^ S = ((y * 2 ^ S : Nat) : Int) by simp, hY, IntKind.wrap_u64]
    omega
  obtain ⟨x', hx'⟩ : ∃ x', x - (S : Int) = x' := ⟨_, rfl⟩
  rw [hx']
  have hw : wrap64 x' = x' := by unfold wrap64; omega
  clear hS hS1 hY h3 h4 hl h0 hy hy' hx0 hx1
  go_enter Tryz.func93, Tryz.ntmps93
  go_wp2_with (go_at_call 193; (with_reducible refine (LZ.out _).mono ?_); rintro _ _ ⟨rfl, rfl⟩)
  try simp only [hs]
  exact bodyPost_ret (v := .agg #[.bool b, .int .i64 x', .int .u64 (Y : Nat)]) (by simp [results, Tryz.results93, go_sem, ↓IntWalk.iteOmega]) rfl ⟨rfl, (((Gr.refl w).alloc _).alloc _).of⟩
/-- The steps from a to b. -/
def ulpN (EM SM a b : Nat) : Int × Int := if EM < a % SM ∨ EM < b % SM then (0, 2) else if a % SM = EM ∨ b % SM = EM then (0, 3) else if sgn SM (a ^^^ b) then (0, 4) else (((b % SM : Nat) : Int) - ((a % SM : Nat) : Int), 0)
/-- a moved by d steps. -/
def addN (EM SM a : Nat) (d : Int) : Nat × Int := if EM < a % SM then (a % (2 * SM), 2) else if a % SM = EM then (a % (2 * SM), 3) else if ((a % SM : Nat) : Int) + d < 0 ∨ (EM : Int) ≤ ((a % SM : Nat) : Int) + d then (a % (2 * SM), 1) else (sgw SM (sgn SM a) + (((a % SM : Nat) : Int) + d).toNat, 0)
theorem diff64 (m n S : Nat) (hm : m < S) (hn : n < S) (hS : (S : Int) ≤ 9223372036854775808) : wrap64 ((n : Int) - m) = (n : Int) - m := by unfold wrap64; omega
theorem w64_lt (m S : Nat) (hm : m < S) (hS : (S : Int) ≤ 9223372036854775808) : wrap64 (m : Int) = m := by unfold wrap64; omega
theorem w64_of (z : Int) (h0 : -9223372036854775808 ≤ z) (h1 : z ≤ 9223372036854775807) : wrap64 z = z := by unfold wrap64; omega
section
variable {W E F BI SM MM PM HB FM EM QB MB : Nat} (k : Fk W E F BI SM MM PM HB FM EM QB MB)
include k
theorem Fk.s63i : (SM : Int) ≤ 9223372036854775808 := Int.ofNat_le.2 k.s63
theorem Fk.ulpDiff (a b : Nat) (ha : U64 a) (hb : U64 b) (w : World) : Calls Tryz.prog 109 #[(.agg #[.int .u64 W, .int .u64 E, .int .u64 F]), .int .u64 a, .int .u64 b] w (Rt (.tuple #[.int .i64 (ulpN EM SM a b).1, .int .u8 (ulpN EM SM a b).2]) w) := by
  have C90 := hidden k.c90
  have C85 := hidden k.c85
  have C89 := hidden k.c89
  have e1 := k.aM a ha
  have e2 := k.aM b hb
  have e3 := bxor a b ha hb
  have e4 := k.sgn_ne (a ^^^ b) (Nat.xor_lt_two_pow (n := 64) ha hb)
  have hm := Nat.mod_lt a k.sp
  have hn := Nat.mod_lt b k.sp
  have h63 := k.s63i
  unfold ulpN
  obtain ⟨m, hme⟩ : ∃ m, a % SM = m := ⟨_, rfl⟩
  rw [hme] at e1 hm ⊢
  obtain ⟨n, hne⟩ : ∃ m, b % SM = m := ⟨_, rfl⟩
  rw [hne] at e2 hn ⊢
  obtain ⟨s, hse⟩ : ∃ s, sgn SM (a ^^^ b) = s := ⟨_, rfl⟩
  rw [hse] at e4 ⊢
  obtain ⟨z, hz⟩ : ∃ z, a ^^^ b = z := ⟨_, rfl⟩
  rw [hz] at e3 e4
  have w1 : wrap64 (m : Int) = m := w64_lt m SM hm h63
  have w2 : wrap64 (n : Int) = n := w64_lt n SM hn h63
  have w3 := diff64 m n SM hm hn h63
  obtain ⟨d, hd⟩ : ∃ d, (n : Int) - (m : Int) = d := ⟨_, rfl⟩
  rw [hd] at w3 ⊢
  clear hme hne hse hz ha hb k hm hn h63
  by_cases c1 : EM < m
  · rw [if_pos (.inl c1)]
    go_enter Tryz.func109, Tryz.ntmps109
    go_upto_region 1 with (fail)
    refine wp_region_ext (by kernel_rfl) (by kernel_rfl) ?_
    repeat (go_big_quiet_step ((go_at_call 90; first | with_reducible exact Calls_ext (C90.out _) | with_reducible exact Calls_ext2 (C90.out _))))
    refine wpQuiet_nil ?_
    rintro w1 ⟨y1, rfl⟩
    go_wp2_with (first | (go_at_call 85; (with_reducible refine (C85.out _).mono ?_); rintro _ _ ⟨rfl, x85, rfl⟩) | (go_at_call 89; (with_reducible refine (C89.out _).mono ?_); rintro _ _ ⟨rfl, x89, rfl⟩))
    go_ret2
    exact ⟨rfl, Gr.of (by repeat (first | exact Gr.refl _ | refine Gr.alloc ?_ _ | refine Gr.ext ?_ _ | refine Gr.drew ?_))⟩
  by_cases c2 : EM < n
  · rw [if_pos (.inr c2)]
    go_enter Tryz.func109, Tryz.ntmps109
    go_upto_region 1 with (fail)
    refine wp_region_ext (by kernel_rfl) (by kernel_rfl) ?_
    repeat (go_big_quiet_step ((go_at_call 90; first | with_reducible exact Calls_ext (C90.out _) | with_reducible exact Calls_ext2 (C90.out _))))
    refine wpQuiet_nil ?_
    rintro w1 ⟨y1, rfl⟩
    go_wp2_with (first | (go_at_call 85; (with_reducible refine (C85.out _).mono ?_); rintro _ _ ⟨rfl, x85, rfl⟩) | (go_at_call 89; (with_reducible refine (C89.out _).mono ?_); rintro _ _ ⟨rfl, x89, rfl⟩))
    go_ret2
    exact ⟨rfl, Gr.of (by repeat (first | exact Gr.refl _ | refine Gr.alloc ?_ _ | refine Gr.ext ?_ _ | refine Gr.drew ?_))⟩
  rw [if_neg (by omega)]
  by_cases c3 : m = EM
  · rw [if_pos (.inl c3)]
    subst c3
    go_enter Tryz.func109, Tryz.ntmps109
    go_upto_region 1 with (fail)
    refine wp_region_ext (by kernel_rfl) (by kernel_rfl) ?_
    repeat (go_big_quiet_step ((go_at_call 90; first | with_reducible exact Calls_ext (C90.out _) | with_reducible exact Calls_ext2 (C90.out _))))
    refine wpQuiet_nil ?_
    rintro w1 ⟨y1, rfl⟩
    go_wp2_with (first | (go_at_call 85; (with_reducible refine (C85.out _).mono ?_); rintro _ _ ⟨rfl, x85, rfl⟩) | (go_at_call 89; (with_reducible refine (C89.out _).mono ?_); rintro _ _ ⟨rfl, x89, rfl⟩))
    go_ret2
    exact ⟨rfl, Gr.of (by repeat (first | exact Gr.refl _ | refine Gr.alloc ?_ _ | refine Gr.ext ?_ _ | refine Gr.drew ?_))⟩
  have b3 : ((m : Int) == (EM : Int)) = false := by simp; omega
  by_cases c4 : n = EM
  · rw [if_pos (.inr c4)]
    subst c4
    go_enter Tryz.func109, Tryz.ntmps109
    go_upto_region 1 with (fail)
    refine wp_region_ext (by kernel_rfl) (by kernel_rfl) ?_
    repeat (go_big_quiet_step ((go_at_call 90; first | with_reducible exact Calls_ext (C90.out _) | with_reducible exact Calls_ext2 (C90.out _))))
    refine wpQuiet_nil ?_
    rintro w1 ⟨y1, rfl⟩
    go_wp2_with (first | (go_at_call 85; (with_reducible refine (C85.out _).mono ?_); rintro _ _ ⟨rfl, x85, rfl⟩) | (go_at_call 89; (with_reducible refine (C89.out _).mono ?_); rintro _ _ ⟨rfl, x89, rfl⟩))
    go_ret2
    exact ⟨rfl, Gr.of (by repeat (first | exact Gr.refl _ | refine Gr.alloc ?_ _ | refine Gr.ext ?_ _ | refine Gr.drew ?_))⟩
  have b4 : ((n : Int) == (EM : Int)) = false := by simp; omega
  rw [if_neg (by omega)]
  cases s
  · simp only [Bool.false_eq_true, if_false]
    go_enter Tryz.func109, Tryz.ntmps109
    go_upto_region 1 with (fail)
    refine wp_region_ext (by kernel_rfl) (by kernel_rfl) ?_
    repeat (go_big_quiet_step ((go_at_call 90; first | with_reducible exact Calls_ext (C90.out _) | with_reducible exact Calls_ext2 (C90.out _))))
    refine wpQuiet_nil ?_
    rintro w1 ⟨y1, rfl⟩
    go_wp2_with (first | (go_at_call 85; (with_reducible refine (C85.out _).mono ?_); rintro _ _ ⟨rfl, x85, rfl⟩) | (go_at_call 89; (with_reducible refine (C89.out _).mono ?_); rintro _ _ ⟨rfl, x89, rfl⟩))
    go_ret2
    exact ⟨by rw [w3]; rfl, Gr.of (by repeat (first | exact Gr.refl _ | refine Gr.alloc ?_ _ | refine Gr.ext ?_ _ | refine Gr.drew ?_))⟩
  · simp only [if_true]
    go_enter Tryz.func109, Tryz.ntmps109
    go_upto_region 1 with (fail)
    refine wp_region_ext (by kernel_rfl) (by kernel_rfl) ?_
    repeat (go_big_quiet_step ((go_at_call 90; first | with_reducible exact Calls_ext (C90.out _) | with_reducible exact Calls_ext2 (C90.out _))))
    refine wpQuiet_nil ?_
    rintro w1 ⟨y1, rfl⟩
    go_wp2_with (first | (go_at_call 85; (with_reducible refine (C85.out _).mono ?_); rintro _ _ ⟨rfl, x85, rfl⟩) | (go_at_call 89; (with_reducible refine (C89.out _).mono ?_); rintro _ _ ⟨rfl, x89, rfl⟩))
    go_ret2
    exact ⟨rfl, Gr.of (by repeat (first | exact Gr.refl _ | refine Gr.alloc ?_ _ | refine Gr.ext ?_ _ | refine Gr.drew ?_))⟩
theorem Fk.addUlps (a : Nat) (d : Int) (ha : U64 a) (hd0 : -9223372036854775808 ≤ d) (hd1 : d ≤ 9223372036854775807) (w : World) : Calls Tryz.prog 111 #[(.agg #[.int .u64 W, .int .u64 E, .int .u64 F]), .int .u64 a, .int .i64 d] w (Rt (.tuple #[.int .u64 ((addN EM SM a d).1 : Nat), .int .u8 (addN EM SM a d).2]) w) := by
  have C20 := hidden k.c20
  have C90 := hidden k.c90
  have C85 := hidden k.c85
  have C89 := hidden k.c89
  have C96 := hidden (fun w => abs64 d hd0 hd1 w)
  have hql := Nat.mod_lt a (show 0 < 2 * SM by have := k.sp; omega)
  have e1 := k.aP a ha
  have e2 := k.aM (a % (2 * SM)) (k.mU a)
  rw [k.mm] at e2
  have e3 := k.aS (a % (2 * SM)) (k.mU a)
  have hsg : a % (2 * SM) / SM % 2 * SM = sgw SM (sgn SM a) := by
    rw [← k.sgn_mod a]
    unfold sgw sgn
    have h2 : a % (2 * SM) / SM % 2 = 0 ∨ a % (2 * SM) / SM % 2 = 1 := by omega
    rcases h2 with h2 | h2 <;> simp [h2]
  rw [hsg] at e3
  have hm := Nat.mod_lt a k.sp
  have h63 := k.s63
  have h3 := k.r3
  have hH := k.hp
  have hor : ∀ r : Nat, r < SM → bits .or .u64 ((sgw SM (sgn SM a) : Nat) : Int) (r : Int) = ((sgw SM (sgn SM a) + r : Nat) : Int) := fun r hr => by
    unfold sgw
    cases sgn SM a
    · have h := bor 0 r (by unfold U64; omega) (by unfold U64; omega)
      simpa using h
    · have h := k.oS r hr
      have hc := bor r SM (by unfold U64; omega) k.uS
      have hd := bor SM r k.uS (by unfold U64; omega)
      rw [Nat.or_comm] at hd
      simp only [if_true]
      rw [hd, ← hc, h]
  unfold addN
  obtain ⟨m, hme⟩ : ∃ m, a % SM = m := ⟨_, rfl⟩
  rw [hme] at e2 hm ⊢
  obtain ⟨q, hqe⟩ : ∃ q, a % (2 * SM) = q := ⟨_, rfl⟩
  rw [hqe] at e1 e2 e3 ⊢
  obtain ⟨g, hge⟩ : ∃ g, sgw SM (sgn SM a) = g := ⟨_, rfl⟩
  rw [hge] at e3 hor ⊢
  clear hme hqe hge hsg ha k hql
  by_cases c1 : EM < m
  · rw [if_pos c1]
    clear hor hm h63 h3 hH
    go_enter Tryz.func111, Tryz.ntmps111
    go_wp2_with (first | (go_at_call 20; (with_reducible refine (C20.out _).mono ?_); rintro _ _ ⟨rfl, x20, rfl⟩) | (go_at_call 90; (with_reducible refine (C90.out _).mono ?_); rintro _ _ ⟨rfl, x90, rfl⟩) | (go_at_call 85; (with_reducible refine (C85.out _).mono ?_); rintro _ _ ⟨rfl, x85, rfl⟩) | (go_at_call 89; (with_reducible refine (C89.out _).mono ?_); rintro _ _ ⟨rfl, x89, rfl⟩) | (go_at_call 96; (with_reducible refine (C96.out _).mono ?_); rintro _ _ ⟨rfl, x96, rfl⟩))
    go_ret2
    exact ⟨rfl, Gr.of (by repeat (first | exact Gr.refl _ | refine Gr.alloc ?_ _ | refine Gr.ext ?_ _ | refine Gr.drew ?_))⟩
  rw [if_neg c1]
  by_cases c2 : m = EM
  · rw [if_pos c2]
    subst c2
    clear hor hm h63 h3 hH
    go_enter Tryz.func111, Tryz.ntmps111
    go_wp2_with (first | (go_at_call 20; (with_reducible refine (C20.out _).mono ?_); rintro _ _ ⟨rfl, x20, rfl⟩) | (go_at_call 90; (with_reducible refine (C90.out _).mono ?_); rintro _ _ ⟨rfl, x90, rfl⟩) | (go_at_call 85; (with_reducible refine (C85.out _).mono ?_); rintro _ _ ⟨rfl, x85, rfl⟩) | (go_at_call 89; (with_reducible refine (C89.out _).mono ?_); rintro _ _ ⟨rfl, x89, rfl⟩) | (go_at_call 96; (with_reducible refine (C96.out _).mono ?_); rintro _ _ ⟨rfl, x96, rfl⟩))
    go_ret2
    exact ⟨rfl, Gr.of (by repeat (first | exact Gr.refl _ | refine Gr.alloc ?_ _ | refine Gr.ext ?_ _ | refine Gr.drew ?_))⟩
  rw [if_neg c2]
  have hwd : IntKind.u64.wrap d = if d < 0 then d + 18446744073709551616 else d := by rw [IntKind.wrap_u64]; split <;> omega
  by_cases c3 : d < 0
  · obtain ⟨u, hu⟩ : ∃ u : Nat, d.natAbs = u := ⟨_, rfl⟩
    rw [hu] at C96
    by_cases c4 : m < u
    · rw [if_pos (by omega)]
      clear hor hm h63 h3 hH hwd hu hd0 hd1
      go_enter Tryz.func111, Tryz.ntmps111
      go_wp2_with (first | (go_at_call 20; (with_reducible refine (C20.out _).mono ?_); rintro _ _ ⟨rfl, x20, rfl⟩) | (go_at_call 90; (with_reducible refine (C90.out _).mono ?_); rintro _ _ ⟨rfl, x90, rfl⟩) | (go_at_call 85; (with_reducible refine (C85.out _).mono ?_); rintro _ _ ⟨rfl, x85, rfl⟩) | (go_at_call 89; (with_reducible refine (C89.out _).mono ?_); rintro _ _ ⟨rfl, x89, rfl⟩) | (go_at_call 96; (with_reducible refine (C96.out _).mono ?_); rintro _ _ ⟨rfl, x96, rfl⟩))
      go_ret2
      exact ⟨rfl, Gr.of (by repeat (first | exact Gr.refl _ | refine Gr.alloc ?_ _ | refine Gr.ext ?_ _ | refine Gr.drew ?_))⟩
    · rw [if_neg (by omega)]
      obtain ⟨r, hr⟩ : ∃ r : Nat, (m : Int) + d = r := ⟨((m : Int) + d).toNat, by omega⟩
      rw [hr, Int.toNat_natCast]
      have hadd : IntKind.u64.wrap ((m : Int) + IntKind.u64.wrap d) = (r : Nat) := by rw [hwd, if_pos c3, IntKind.wrap_u64]; omega
      have ho := hor r (by omega)
      clear hor hm h63 h3 hH hwd hu hd0 hd1 hr
      go_enter Tryz.func111, Tryz.ntmps111
      go_wp2_with (first | (go_at_call 20; (with_reducible refine (C20.out _).mono ?_); rintro _ _ ⟨rfl, x20, rfl⟩) | (go_at_call 90; (with_reducible refine (C90.out _).mono ?_); rintro _ _ ⟨rfl, x90, rfl⟩) | (go_at_call 85; (with_reducible refine (C85.out _).mono ?_); rintro _ _ ⟨rfl, x85, rfl⟩) | (go_at_call 89; (with_reducible refine (C89.out _).mono ?_); rintro _ _ ⟨rfl, x89, rfl⟩) | (go_at_call 96; (with_reducible refine (C96.out _).mono ?_); rintro _ _ ⟨rfl, x96, rfl⟩))
      go_ret2
      exact ⟨rfl, Gr.of (by repeat (first | exact Gr.refl _ | refine Gr.alloc ?_ _ | refine Gr.ext ?_ _ | refine Gr.drew ?_))⟩
  · have hwd2 : IntKind.u64.wrap d = d := by rw [hwd, if_neg c3]
    have hs1 : IntKind.u64.wrap ((EM : Int) - 1) = ((EM - 1 : Nat) : Int) := by rw [IntKind.wrap_u64]; omega
    obtain ⟨E1, hE1⟩ : ∃ E1, EM - 1 = E1 := ⟨_, rfl⟩
    rw [hE1] at hs1
    have hs2 : IntKind.u64.wrap ((E1 : Int) - (m : Int)) = ((E1 - m : Nat) : Int) := by rw [IntKind.wrap_u64]; omega
    obtain ⟨E2, hE2⟩ : ∃ E2, E1 - m = E2 := ⟨_, rfl⟩
    rw [hE2] at hs2
    by_cases c4 : (E2 : Int) < d
    · rw [if_pos (by omega)]
      clear hor hm h63 h3 hH hwd hE1 hE2 hd0 hd1
      go_enter Tryz.func111, Tryz.ntmps111
      go_wp2_with (first | (go_at_call 20; (with_reducible refine (C20.out _).mono ?_); rintro _ _ ⟨rfl, x20, rfl⟩) | (go_at_call 90; (with_reducible refine (C90.out _).mono ?_); rintro _ _ ⟨rfl, x90, rfl⟩) | (go_at_call 85; (with_reducible refine (C85.out _).mono ?_); rintro _ _ ⟨rfl, x85, rfl⟩) | (go_at_call 89; (with_reducible refine (C89.out _).mono ?_); rintro _ _ ⟨rfl, x89, rfl⟩) | (go_at_call 96; (with_reducible refine (C96.out _).mono ?_); rintro _ _ ⟨rfl, x96, rfl⟩))
      go_ret2
      exact ⟨rfl, Gr.of (by repeat (first | exact Gr.refl _ | refine Gr.alloc ?_ _ | refine Gr.ext ?_ _ | refine Gr.drew ?_))⟩
    · rw [if_neg (by omega)]
      obtain ⟨r, hr⟩ : ∃ r : Nat, (m : Int) + d = r := ⟨((m : Int) + d).toNat, by omega⟩
      rw [hr, Int.toNat_natCast]
      have hadd : IntKind.u64.wrap (r : Int) = (r : Nat) := by rw [IntKind.wrap_u64]; omega
      have ho := hor r (by omega)
      clear hor hm h63 h3 hH hwd hE1 hE2 hd0 hd1
      go_enter Tryz.func111, Tryz.ntmps111
      go_wp2_with (first | (go_at_call 20; (with_reducible refine (C20.out _).mono ?_); rintro _ _ ⟨rfl, x20, rfl⟩) | (go_at_call 90; (with_reducible refine (C90.out _).mono ?_); rintro _ _ ⟨rfl, x90, rfl⟩) | (go_at_call 85; (with_reducible refine (C85.out _).mono ?_); rintro _ _ ⟨rfl, x85, rfl⟩) | (go_at_call 89; (with_reducible refine (C89.out _).mono ?_); rintro _ _ ⟨rfl, x89, rfl⟩) | (go_at_call 96; (with_reducible refine (C96.out _).mono ?_); rintro _ _ ⟨rfl, x96, rfl⟩))
      go_ret2
      exact ⟨rfl, Gr.of (by repeat (first | exact Gr.refl _ | refine Gr.alloc ?_ _ | refine Gr.ext ?_ _ | refine Gr.drew ?_))⟩
end
end Go.Proofs.Qxb6500680aGreatDoor
