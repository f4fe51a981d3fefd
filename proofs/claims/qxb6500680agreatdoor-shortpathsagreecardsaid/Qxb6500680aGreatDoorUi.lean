import Derived.Test.Qxb6500680aGreatDoorUh
namespace Go.Proofs.Qxb6500680aGreatDoor
open Go.RowKit Go.BigFrame
set_option linter.unusedSimpArgs false
set_option linter.unusedSectionVars false
attribute [local go_sem] ext_cell_if ext_frozen_if alloc_cell_if alloc_frozen_if ext_size ext_ext calmOp calmAt
/-- The short road's rounding: x of L bits, its exponent field fd. -/
def shUp (F x L : Nat) : Nat := if tieN (x % 2 ^ (L - (F + 1))) (L - (F + 1)) (x / 2 ^ (L - (F + 1)) % 2 == 1) then x / 2 ^ (L - (F + 1)) + 1 else x / 2 ^ (L - (F + 1))
def shN (F HB EM SM : Nat) (neg : Bool) (fd x L : Nat) : Nat × Int :=
  if EM ≤ (fd + (L - (F + 1)) - 1) * HB + shUp F x L then (EM + sgw SM neg, 5) else ((fd + (L - (F + 1)) - 1) * HB + shUp F x L + sgw SM neg, if x % 2 ^ (L - (F + 1)) = 0 then 0 else 1)
theorem up_bd (b : Bool) (kp H : Nat) (h1 : H ≤ kp) (h2 : kp < 2 * H) : (if b then kp + 1 else kp) ≤ 2 * H ∧ H ≤ (if b then kp + 1 else kp) := by split <;> omega
theorem magE (z u M : Nat) (h : z + u < M) : (z % M + u) % M = z + u := by
  rw [Nat.mod_eq_of_lt (show z < M by omega), Nat.mod_eq_of_lt h]
theorem s64 {z S : Nat} (h : z ≤ S) (hS : S ≤ 9223372036854775808) : z < 18446744073709551616 := Nat.lt_of_le_of_lt (Nat.le_trans h hS) (by decide)
theorem eM_of (fd BI HB D u SM : Nat) (f1 : 1 ≤ fd + D) (h : (fd + D - 1) * HB + u ≤ SM) (hS : SM ≤ 9223372036854775808) : rpMag HB BI ((fd : Int) - BI + (D : Int)) u = (fd + D - 1) * HB + u := by
  unfold rpMag
  have e : ((fd : Int) - BI + (D : Int) + BI - 1).toNat = fd + D - 1 := by clear h hS; omega
  rw [e]
  exact magE _ _ _ (s64 h hS)
theorem rpA (F BI SM EM HB : Nat) (neg : Bool) (fd lo L : Nat) (h9 : 2 * BI * HB + 2 * HB = SM) (hS : SM ≤ 9223372036854775808) (cA : L ≤ F + 1) (hlo : lo < 2 * HB) (f1 : 1 ≤ fd) (f2 : fd ≤ 2 * BI) (hc : fd = 1 ∨ F + 1 ≤ L) (hl : lo < 18446744073709551616) : (if (BI : Int) < (fd : Int) - BI - F + (L : Nat) - 1 then (EM + sgw SM neg, 5) else rpEnd BI SM EM HB neg ((fd : Int) - BI - F + (L : Nat) - 1) (rpCut 0 lo (rpScale BI ((fd : Int) - BI - F + (L : Nat) - 1) - F - ((fd : Int) - BI - F)) false)) = shN F HB EM SM neg fd lo L := by
  have hm : (fd - 1) * HB ≤ 2 * BI * HB := Nat.mul_le_mul_right _ (by omega)
  have hzb : (fd + 0 - 1) * HB + lo ≤ SM := by
    rw [← h9]
    exact Nat.add_le_add hm (Nat.le_of_lt hlo)
  have eM := eM_of fd BI HB 0 lo SM f1 hzb hS
  clear hm hzb h9 hS hlo
  have esc : rpScale BI ((fd : Int) - BI - F + (L : Nat) - 1) = (fd : Int) - BI := by
    unfold rpScale
    clear eM hl
    split <;> omega
  have edr : rpScale BI ((fd : Int) - BI - F + (L : Nat) - 1) - F - ((fd : Int) - BI - F) = 0 := by rw [esc]; clear esc eM hl; omega
  have eC : rpCut 0 lo 0 false = (lo, false, false) := by
    unfold rpCut
    rw [if_pos (by decide)]
    congr 1
    rw [show min (-(0 : Int)).toNat 64 = 0 from rfl, Nat.pow_zero, Nat.mul_one]
    exact Nat.mod_eq_of_lt hl
  have eU : rpUp (lo, false, false) = lo := by unfold rpUp; rfl
  have n1 : ¬ (BI : Int) < (fd : Int) - BI - F + (L : Nat) - 1 := by clear esc edr eM hl eC; omega
  have n2 : L - (F + 1) = 0 := by clear esc edr eM hl eC; omega
  rw [if_neg n1, edr, eC]
  unfold rpEnd shN shUp
  rw [eU, esc]
  rw [show (fd : Int) - BI = (fd : Int) - BI + ((0 : Nat) : Int) by simp, eM, n2, Nat.pow_zero, Nat.mod_one, Nat.div_one, Nat.add_zero]
  simp [tieN]
theorem eF_of (x D : Nat) : ((x / 2 ^ D % 2 == 1) || !(x % 2 ^ D == 0)) = !(x % 2 ^ (D + 1) == 0) := by
  have q1 : x % 2 ^ (D + 1) = x % 2 ^ D + 2 ^ D * (x / 2 ^ D % 2) := by rw [Nat.pow_succ, Nat.mod_mul]
  have q2 : 0 < 2 ^ D := Nat.pos_of_ne_zero (by simp)
  rw [q1]
  generalize 2 ^ D = p at *
  have q3 : x / p % 2 = 0 ∨ x / p % 2 = 1 := by omega
  rcases q3 with q3 | q3
  · rw [q3]; simp
  · rw [q3]
    have : p ≠ 0 := by omega
    simp [this]
theorem upX (F x L D HB : Nat) (r8 : HB = 2 ^ F) (hL : L = D + 1 + (F + 1)) (l1 : 2 ^ (L - 1) ≤ x) (l2 : x < 2 ^ L) : (shUp F x L = if (x / 2 ^ D % 2 == 1) && (!(x % 2 ^ D == 0) || (x / 2 ^ (D + 1) % 2 == 1)) then x / 2 ^ (D + 1) + 1 else x / 2 ^ (D + 1)) ∧ shUp F x L ≤ 2 * HB ∧ HB ≤ shUp F x L ∧ x / 2 ^ (D + 1) < 2 * HB := by
  have hDe : L - (F + 1) = D + 1 := by omega
  have hk1 : HB ≤ x / 2 ^ (D + 1) := by
    rw [Nat.le_div_iff_mul_le (Nat.pos_of_ne_zero (by simp)), r8, ← Nat.pow_add]
    rw [show L - 1 = F + (D + 1) by omega] at l1
    exact l1
  have hk2 : x / 2 ^ (D + 1) < 2 * HB := by
    refine (Nat.div_lt_iff_lt_mul (Nat.pos_of_ne_zero (by simp))).2 ?_
    rw [r8, ← Nat.pow_succ', ← Nat.pow_add, show F + 1 + (D + 1) = L by omega]
    exact l2
  have eU : shUp F x L = if (x / 2 ^ D % 2 == 1) && (!(x % 2 ^ D == 0) || (x / 2 ^ (D + 1) % 2 == 1)) then x / 2 ^ (D + 1) + 1 else x / 2 ^ (D + 1) := by
    unfold shUp
    rw [hDe, tie_plain]
  have hb := up_bd ((x / 2 ^ D % 2 == 1) && (!(x % 2 ^ D == 0) || (x / 2 ^ (D + 1) % 2 == 1))) _ _ hk1 hk2
  rw [← eU] at hb
  exact ⟨eU, hb.1, hb.2, hk2⟩
theorem rpB (F BI SM EM HB : Nat) (neg : Bool) (fd hi lo x L D : Nat) (h9 : 2 * BI * HB + 2 * HB = SM) (eEM : EM = 2 * BI * HB + HB) (hS : SM ≤ 9223372036854775808) (r8 : HB = 2 ^ F) (bp : 1 ≤ BI) (hL : L = D + 1 + (F + 1)) (l1 : 2 ^ (L - 1) ≤ x) (l2 : x < 2 ^ L) (f1 : 1 ≤ fd)
    (cX : cut128 hi lo (D + 1) = (x / 2 ^ (D + 1), x / 2 ^ D % 2 == 1, !(x % 2 ^ D == 0))) : (if (BI : Int) < (fd : Int) - BI - F + (L : Nat) - 1 then (EM + sgw SM neg, 5) else rpEnd BI SM EM HB neg ((fd : Int) - BI - F + (L : Nat) - 1) (rpCut hi lo (rpScale BI ((fd : Int) - BI - F + (L : Nat) - 1) - F - ((fd : Int) - BI - F)) false)) = shN F HB EM SM neg fd x L := by
  have hDe : L - (F + 1) = D + 1 := by omega
  obtain ⟨eU, u1, u2, u3⟩ := upX F x L D HB r8 hL l1 l2
  clear l1 l2 r8
  obtain ⟨u, hu⟩ : ∃ u, shUp F x L = u := ⟨_, rfl⟩
  rw [hu] at eU u1 u2
  have eT : (fd : Int) - BI - F + (L : Nat) - 1 = (fd : Int) - BI + ((D + 1 : Nat) : Int) := by clear eU u1 u2 u3 cX h9 eEM hS; omega
  rw [eT]
  have esc : rpScale BI ((fd : Int) - BI + ((D + 1 : Nat) : Int)) = (fd : Int) - BI + ((D + 1 : Nat) : Int) := by
    unfold rpScale
    clear eU u1 u2 u3 cX h9 eEM hS
    rw [if_neg (by omega)]
  have edr : rpScale BI ((fd : Int) - BI + ((D + 1 : Nat) : Int)) - F - ((fd : Int) - BI - F) = ((D + 1 : Nat) : Int) := by
    rw [esc]
    clear eU u1 u2 u3 cX h9 eEM hS esc
    omega
  unfold shN
  rw [hu, hDe]
  by_cases cT : (BI : Int) < (fd : Int) - BI + ((D + 1 : Nat) : Int)
  · rw [if_pos cT]
    have hm : 2 * BI * HB ≤ (fd + (D + 1) - 1) * HB := Nat.mul_le_mul_right _ (by clear eU u1 u2 u3 cX h9 eEM hS esc edr; omega)
    have hz : EM ≤ (fd + (D + 1) - 1) * HB + u := by
      rw [eEM]
      exact Nat.add_le_add hm u2
    rw [if_pos hz]
  · rw [if_neg cT, edr]
    have eC : rpCut hi lo ((D + 1 : Nat) : Int) false = (x / 2 ^ (D + 1), x / 2 ^ D % 2 == 1, !(x % 2 ^ D == 0)) := by
      unfold rpCut
      rw [if_neg (by clear eU u1 u2 u3 cX h9 eEM hS esc edr; omega), Int.toNat_natCast, cX]
      simp
    have hm : (fd + (D + 1) - 1) * HB ≤ 2 * BI * HB := Nat.mul_le_mul_right _ (by clear eU u1 u2 u3 cX h9 eEM hS esc edr; omega)
    have hzb : (fd + (D + 1) - 1) * HB + u ≤ SM := by
      rw [← h9]
      exact Nat.add_le_add hm u1
    have hk : x / 2 ^ (D + 1) + 1 ≤ SM := by
      have : 2 * HB ≤ SM := by rw [← h9]; exact Nat.le_add_left _ _
      exact Nat.le_trans u3 this
    have eU2 : rpUp (x / 2 ^ (D + 1), x / 2 ^ D % 2 == 1, !(x % 2 ^ D == 0)) = u := by
      rw [eU]
      unfold rpUp
      dsimp only
      rw [Nat.mod_eq_of_lt (s64 hk hS)]
    have eM := eM_of fd BI HB (D + 1) u SM (by clear eU u1 u2 u3 cX h9 eEM hS esc edr hm hzb hk eC; omega) hzb hS
    have eF := eF_of x D
    rw [eC]
    unfold rpEnd
    rw [eU2, esc, eM]
    dsimp only
    rw [eF, if_neg (show ¬ (fd : Int) - BI + ((D + 1 : Nat) : Int) < 1 - (BI : Int) by clear eU u1 u2 u3 cX h9 eEM hS esc edr hm hzb hk eC eM eF eU2; omega)]
    by_cases cz : x % 2 ^ (D + 1) = 0
    · simp [cz]
    · simp [cz]
section
variable {W E F BI SM MM PM HB FM EM QB MB : Nat} (k : Fk W E F BI SM MM PM HB FM EM QB MB)
include k
theorem Fk.rpX (neg : Bool) (fd hi lo : Nat) (hh : U64 hi) (hl : U64 lo) (h0 : hi * 18446744073709551616 + lo ≠ 0) (f1 : 1 ≤ fd) (f2 : fd ≤ 2 * BI) (hc : fd = 1 ∨ F + 1 ≤ len128 hi lo) (hD : len128 hi lo ≤ F + 64) : rpN F BI SM EM HB neg ((fd : Int) - BI - F) hi lo false = shN F HB EM SM neg fd (hi * 18446744073709551616 + lo) (len128 hi lo) := by
  obtain ⟨l0, l1, l2⟩ := lenX hi lo hh hl h0
  have r3 := k.r3
  have r5 := k.r5
  have r6 := k.r6
  have r8 := k.r8
  have s63 := k.s63
  have b1 := k.b1
  have b4 := k.b4
  unfold rpN
  rw [if_neg (show ¬ len128 hi lo = 0 from Nat.ne_of_gt l0)]
  have cX := cutX hi lo
  have eEM : EM = 2 * BI * HB + HB := by rw [r5, r6, Nat.add_mul, Nat.one_mul]
  have h9 : 2 * BI * HB + 2 * HB = SM := by rw [← r3, eEM, Nat.two_mul HB, Nat.add_assoc]
  clear r3 r5 r6 k
  generalize len128 hi lo = L at l0 l1 l2 hc hD ⊢
  obtain ⟨x, hx⟩ : ∃ x, hi * 18446744073709551616 + lo = x := ⟨_, rfl⟩
  simp only [hx] at cX
  rw [hx] at h0 l1 l2 ⊢
  by_cases cA : L ≤ F + 1
  · have hxb : x < 2 ^ 53 := Nat.lt_of_lt_of_le l2 (Nat.pow_le_pow_right (by decide) (by clear hx l1 l2 h9 eEM s63 cX r8 hc; omega))
    have hxF : x < 2 * HB := by
      have h2 : 2 ^ L ≤ 2 ^ (F + 1) := Nat.pow_le_pow_right (by decide) cA
      rw [Nat.pow_succ, ← r8, Nat.mul_comm] at h2
      exact Nat.lt_of_lt_of_le l2 h2
    have hhi : hi = 0 := by clear l1 l2 h9 eEM s63 cX r8 hc hxF; omega
    subst hhi
    rw [Nat.zero_mul, Nat.zero_add] at hx
    subst hx
    exact rpA F BI SM EM HB neg fd lo L h9 s63 cA hxF f1 f2 hc hl
  · obtain ⟨D, hDe⟩ : ∃ D, L = D + 1 + (F + 1) := ⟨L - (F + 1) - 1, by clear hx l1 l2 h9 eEM s63 cX r8 hc; omega⟩
    have hhi : hi < 2 ^ (D + 1) := by
      have h1 : 2 ^ L ≤ 2 ^ (D + 1 + 64) := Nat.pow_le_pow_right (by decide) (by clear hx l1 l2 h9 eEM s63 cX r8 hc; omega)
      rw [Nat.pow_add 2 (D + 1) 64] at h1
      have h2 : hi * 18446744073709551616 < 2 ^ (D + 1) * 2 ^ 64 := Nat.lt_of_le_of_lt (hx ▸ Nat.le_add_right _ _) (Nat.lt_of_lt_of_le l2 h1)
      exact Nat.lt_of_mul_lt_mul_right h2
    have cY := cX (D + 1) hl (by clear hx l1 l2 h9 eEM s63 cX r8 hc hhi; omega) (by clear hx l1 l2 h9 eEM s63 cX r8 hc hhi; omega) hhi
    rw [Nat.add_sub_cancel] at cY
    exact rpB F BI SM EM HB neg fd hi lo x L D h9 eEM s63 r8 b1 hDe l1 l2 f1 cY
end
end Go.Proofs.Qxb6500680aGreatDoor
