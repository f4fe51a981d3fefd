import Derived.Test.Qxb6500680aGreatDoorUp
import Derived.Test.Qxb6500680aGreatDoorSh
namespace Go.Proofs.Qxb6500680aGreatDoor
open Go.RowKit Go.BigFrame
set_option linter.unusedSimpArgs false
set_option linter.unusedSectionVars false
attribute [local go_sem] ext_cell_if ext_frozen_if alloc_cell_if alloc_frozen_if ext_size ext_ext calmOp calmAt
section
variable {W E F BI SM MM PM HB FM EM QB MB : Nat} (k : Fk W E F BI SM MM PM HB FM EM QB MB)
include k
theorem Fk.one (w : World) : Calls Tryz.prog 40 #[.agg #[.int .u64 W, .int .u64 E, .int .u64 F], .bool false] w (Rt (.int .u64 (BI * HB : Nat)) w) := by
  have h2 := k.b2
  have h3 := k.r3
  have h5 := k.r5
  have h6 := k.r6
  have h63 := k.s63
  have hm : BI * HB ≤ MB * HB := Nat.mul_le_mul_right _ (by omega)
  have hlt : BI * HB < SM := by have := k.hp; omega
  have hu : U64 (BI * HB) := Nat.lt_of_lt_of_le hlt (Nat.le_trans h63 (by decide))
  have e1 : IntKind.u64.wrap (BI : Int) = (BI : Int) := by rw [IntKind.wrap_u64]; omega
  have e2 : IntKind.u64.wrap ((BI : Int) * 2 ^ min F 64) = ((BI * HB : Nat) : Int) := by
    rw [Nat.min_eq_left (by have := k.b4; omega), shl_eq, ← k.r8, Nat.mod_eq_of_lt hu]
  have hws := fun w => k.withSign (BI * HB) false hlt w
  have e0 : BI * HB + sgw SM false = BI * HB := by simp [sgw]
  rw [e0] at hws
  exact w40 W E F BI _ _ e1 e2 (hidden k.c145) (hidden hws) w
theorem Fk.mulErr (p : Nat) (hp : p < 2 * SM) (h : p % SM = 0 ∨ EM ≤ p % SM) (ty : TypeId) (ev : Value) (w : World) (hg : w.cell? ⟨0, 0, none⟩ = some (.iface ty ev)) (h0 : 0 < w.heap.size) : Calls Tryz.prog 26 #[.agg #[.int .u64 W, .int .u64 E, .int .u64 F], .int .u64 p] w (Rt (.tuple #[.agg #[.int .u64 0, .int .u64 0, .int .u64 0, .int .u64 0, .bool false, .int .i64 0, .int .u64 0, .bool false, .int .i64 0, .int .u64 0], .iface ty ev]) w) := by
  have hu : U64 p := by have := k.s63; unfold U64; omega
  have e1 := k.aP p hu
  rw [Nat.mod_eq_of_lt hp] at e1
  have e2 := k.aM p hu
  refine w26e W E F p PM MM EM p ((p % SM : Nat) : Int) ty ev e1 e2 (hidden k.c20) (hidden k.c90) (hidden k.c85) ?_ w hg h0
  by_cases c : p % SM = 0
  · left; rw [c]; rfl
  · right
    refine ⟨by rw [nbeq]; simpa using c, ?_⟩
    exact Int.ofNat_le.2 (h.resolve_left c)
/-- The prepared multiplier: all that it answers. -/
theorem Fk.mulAll (p : Nat) (hp : p < 2 * SM) (h0 : p % SM ≠ 0) (h1 : ¬ EM ≤ p % SM) : ∃ (ex sg lx ls : Int) (s : Bool),
    (∀ w, Calls Tryz.prog 26 #[.agg #[.int .u64 W, .int .u64 E, .int .u64 F], .int .u64 p] w (Rt (.tuple #[.agg #[.int .u64 W, .int .u64 E, .int .u64 F, .int .u64 p, .bool s, .int .i64 ex, .int .u64 sg, .bool s, .int .i64 lx, .int .u64 ls], .nilIface]) w)) ∧
    (∀ n w, -2147483648 ≤ n → n ≤ 2147483647 → Calls Tryz.prog 29 #[.agg #[.int .u64 W, .int .u64 E, .int .u64 F, .int .u64 p, .bool s, .int .i64 ex, .int .u64 sg, .bool s, .int .i64 lx, .int .u64 ls], .int .i32 n] w (Rt (.tuple #[.int .u64 ((mulIntN F BI SM EM HB QB MB n p).1 : Nat), .int .u8 (mulIntN F BI SM EM HB QB MB n p).2]) w)) ∧
    (∀ x, U64 x → ∀ w, Calls Tryz.prog 32 #[.agg #[.int .u64 W, .int .u64 E, .int .u64 F, .int .u64 p, .bool s, .int .i64 ex, .int .u64 sg, .bool s, .int .i64 lx, .int .u64 ls], .int .u64 (x : Nat)] w (Rt (.tuple #[.int .i32 (qtN F BI SM EM HB MB x p).1, .int .u8 (qtN F BI SM EM HB MB x p).2]) w)) ∧
    (∀ w, Calls Tryz.prog 37 #[.agg #[.int .u64 W, .int .u64 E, .int .u64 F, .int .u64 p, .bool s, .int .i64 ex, .int .u64 sg, .bool s, .int .i64 lx, .int .u64 ls]] w (Rt (.int .u64 p) w)) ∧ (∀ w, Calls Tryz.prog 38 #[.agg #[.int .u64 W, .int .u64 E, .int .u64 F, .int .u64 p, .bool s, .int .i64 ex, .int .u64 sg, .bool s, .int .i64 lx, .int .u64 ls]] w (Rt (.agg #[.int .u64 W, .int .u64 E, .int .u64 F]) w)) ∧ (∀ w, Calls Tryz.prog 39 #[.agg #[.int .u64 W, .int .u64 E, .int .u64 F, .int .u64 p, .bool s, .int .i64 ex, .int .u64 sg, .bool s, .int .i64 lx, .int .u64 ls]] w (Rt (.bool ((p : Int) == ((BI * HB : Nat) : Int))) w)) := by
  have hu : U64 p := by have := k.s63; unfold U64; omega
  have e1 := k.aP p hu
  rw [Nat.mod_eq_of_lt hp] at e1
  have e2 := k.aM p hu
  have hx := k.uexp_bd p
  have C93 : ∀ w, Calls Tryz.prog 93 #[.agg #[.bool (sgn SM p), .int .i64 (uexp F BI HB MB p), .int .u64 (usig HB MB p : Nat)]] w (Rt (.agg #[.bool (sgn SM p), .int .i64 (lexp F BI HB MB p), .int .u64 (lsig HB MB p : Nat)]) w) := fun w => leftAlign_eq (sgn SM p) (uexp F BI HB MB p) (usig HB MB p) (k.usig_u p) (k.usig0 p h0) (by omega) (by omega) w
  refine ⟨uexp F BI HB MB p, usig HB MB p, lexp F BI HB MB p, lsig HB MB p, sgn SM p, ?_, ?_, ?_, fun w => w37 _ _ _ _ _ _ _ _ _ w, fun w => w38 _ _ _ _ _ _ _ _ _ w, fun w => w39 _ _ _ _ _ _ _ _ _ _ (hidden k.one) w⟩
  · intro w
    exact w26 W E F p PM MM EM p ((p % SM : Nat) : Int) _ _ _ _ _ e1 e2 (hidden k.c20) (hidden k.c90) (hidden k.c85) (hidden (fun w => k.unpack p hu w)) (hidden C93) (by rw [nbeq]; simpa using h0) (fun h => h1 (Int.ofNat_le.1 h)) w
  · intro n w n0 n1
    have g1 : ¬ EM < p % SM := fun h => h1 (Nat.le_of_lt h)
    have g2 : ¬ p % SM = EM := fun h => h1 (Nat.le_of_eq h.symm)
    by_cases c : n = 0
    · subst c
      have hR : mulIntN F BI SM EM HB QB MB 0 p = (sgw SM (sgn SM p), 0) := by
        unfold mulIntN
        rw [if_neg g1, if_neg g2, if_pos (.inr rfl)]
        simp
      rw [hR]
      exact w29z W E F _ _ _ _ _ _ (sgn SM p) (hidden (fun w => k.zero (sgn SM p) w)) w
    · have g3 : ¬ (p % SM = 0 ∨ n = 0) := fun h => h.elim h0 c
      have hR : mulIntN F BI SM EM HB QB MB n p = rpN F BI SM EM HB (sgn SM p != decide (n < 0)) (uexp F BI HB MB p) (usig HB MB p * n.natAbs / 18446744073709551616) (usig HB MB p * n.natAbs % 18446744073709551616) false := by
        unfold mulIntN
        rw [if_neg g1, if_neg g2, if_neg g3]
      rw [hR]
      have hna : U64 n.natAbs := by unfold U64; omega
      exact w29 W E F _ _ _ _ _ n _ _ _ _ _ (sgn SM p) _ (by simpa using c) n0 n1 rfl (hidden (fun w => abs64 n (by omega) (by omega) w)) (hidden (fun w => mul128 (usig HB MB p) n.natAbs (k.usig_u p) hna w))
        (hidden (fun w => k.roundPack (sgn SM p != decide (n < 0)) (uexp F BI HB MB p) (usig HB MB p * n.natAbs / 18446744073709551616) (usig HB MB p * n.natAbs % 18446744073709551616) false (mulU (k.usig_u p) hna) (modU _) (by omega) (by omega) w)) w
  · intro x hux w
    have g1 : ¬ EM < p % SM := fun h => h1 (Nat.le_of_lt h)
    have g2 : ¬ p % SM = EM := fun h => h1 (Nat.le_of_eq h.symm)
    have e3 := k.aM x hux
    by_cases c1 : EM < x % SM
    · have hR : qtN F BI SM EM HB MB x p = (0, 2) := by unfold qtN; rw [if_pos (.inl c1)]
      rw [hR]
      exact w32a W E F _ _ _ _ _ x MM EM ((x % SM : Nat) : Int) 2 _ e3 (hidden k.c90) (hidden k.c85) (.inl ⟨Int.ofNat_lt.2 c1, rfl⟩) w
    have n1 : ¬ (EM : Int) < ((x % SM : Nat) : Int) := fun h => c1 (Int.ofNat_lt.1 h)
    by_cases c2 : x % SM = EM
    · have hR : qtN F BI SM EM HB MB x p = (0, 3) := by unfold qtN; rw [if_neg (fun h => h.elim c1 g1), if_pos (.inl c2)]
      rw [hR]
      exact w32a W E F _ _ _ _ _ x MM EM ((x % SM : Nat) : Int) 3 _ e3 (hidden k.c90) (hidden k.c85) (.inr (.inl ⟨n1, by rw [c2], rfl⟩)) w
    have n2 : (((x % SM : Nat) : Int) == (EM : Int)) = false := by rw [beq_eq_false_iff_ne]; exact fun h => c2 (Int.ofNat.inj h)
    by_cases c3 : x % SM = 0
    · have hR : qtN F BI SM EM HB MB x p = (0, 0) := by unfold qtN; rw [if_neg (fun h => h.elim c1 g1), if_neg (fun h => h.elim c2 g2), if_neg h0, if_pos c3]
      rw [hR]
      exact w32a W E F _ _ _ _ _ x MM EM ((x % SM : Nat) : Int) 0 _ e3 (hidden k.c90) (hidden k.c85) (.inr (.inr ⟨n1, n2, by rw [c3]; rfl, rfl⟩)) w
    have hR : qtN F BI SM EM HB MB x p = quoN (sgn SM x != sgn SM p) (lexp F BI HB MB x - lexp F BI HB MB p) (lsig HB MB x) (lsig HB MB p) := by unfold qtN; rw [if_neg (fun h => h.elim c1 g1), if_neg (fun h => h.elim c2 g2), if_neg h0, if_neg c3]
    obtain ⟨b1, b2⟩ := qtN_bd F BI SM EM HB MB x p
    rw [hR] at b1 b2 ⊢
    have hx2 := k.uexp_bd x
    have D93 : ∀ w, Calls Tryz.prog 93 #[.agg #[.bool (sgn SM x), .int .i64 (uexp F BI HB MB x), .int .u64 (usig HB MB x : Nat)]] w (Rt (.agg #[.bool (sgn SM x), .int .i64 (lexp F BI HB MB x), .int .u64 (lsig HB MB x : Nat)]) w) := fun w => leftAlign_eq (sgn SM x) (uexp F BI HB MB x) (usig HB MB x) (k.usig_u x) (k.usig0 x c3) (by omega) (by omega) w
    exact w32b W E F _ _ _ _ _ x MM EM ((x % SM : Nat) : Int) _ _ _ _ _ _ _ _ e3 (by rw [IntKind.wrap_i32]; omega) (hidden k.c90) (hidden k.c85) (hidden (fun w => k.unpack x hux w)) (hidden D93)
      (hidden (fun w => quoAligned_eq (sgn SM x) (sgn SM p) (lexp F BI HB MB x) (lexp F BI HB MB p) (lsig HB MB x) (lsig HB MB p) (k.lsig_u x c3) (k.lsig_lo p h0) (k.lsig_u p h0) (by have := k.lexp_bd x; omega) (by have := k.lexp_bd p; omega) w)) n1 n2 (by rw [nbeq]; simpa using c3) w
end
end Go.Proofs.Qxb6500680aGreatDoor
