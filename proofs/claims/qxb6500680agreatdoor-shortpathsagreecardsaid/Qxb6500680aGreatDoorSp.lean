import Derived.Test.Qxb6500680aGreatDoorSo
namespace Go.Proofs.Qxb6500680aGreatDoor
open Go.RowKit Go.BigFrame
set_option linter.unusedSimpArgs false
set_option linter.unusedSectionVars false
attribute [local go_sem] ext_cell_if ext_frozen_if alloc_cell_if alloc_frozen_if ext_size ext_ext
theorem tnum (q BI F : Nat) (h1 : BI ≤ 1023) (h2 : q ≤ 2 * BI + 1) (h3 : F ≤ 52) : wrap64 (q : Int) = q ∧ wrap64 ((q : Int) - (BI : Int)) = (q : Int) - (BI : Int) ∧ wrap64 (F : Int) = F := by unfold wrap64; omega
theorem tnum2 (q BI F D : Nat) (hD : F + BI - q = D) (h3 : F ≤ 52) (h4 : 23 ≤ F) (c2 : ¬ q < BI) (c3 : ¬ BI + 24 ≤ q) : (F : Int) - ((q : Int) - (BI : Int)) = D ∧ D ≤ F ∧ F < 24 + D ∧ wrap64 (D : Int) = D ∧ IntKind.u64.wrap (D : Int) = D ∧ (0 : Int) ≤ (D : Int) := by rw [IntKind.wrap_u64]; unfold wrap64; omega
theorem tsg1 {q BI : Nat} {e : Int} (he : (q : Int) - (BI : Int) = e) (h : q < BI) : e < 0 := by omega
theorem tsg2 {q BI : Nat} {e : Int} (he : (q : Int) - (BI : Int) = e) (h : ¬ q < BI) : ¬ e < 0 := by omega
theorem tsg3 {q BI : Nat} {e : Int} (he : (q : Int) - (BI : Int) = e) (h : BI + 24 ≤ q) : 24 ≤ e := by omega
theorem tsg4 {q BI : Nat} {e : Int} (he : (q : Int) - (BI : Int) = e) (h : ¬ BI + 24 ≤ q) : ¬ 24 ≤ e := by omega
theorem tnum3 (V : Nat) (h : V < 16777216) : wrap64 (V : Int) = V ∧ wrap64 (-(V : Int)) = -(V : Int) := by unfold wrap64; omega
/-- The whole part, below 2^24. -/
def truncN (F BI SM HB EM p : Nat) : Int × Int := if EM < p % SM then (0, 2) else if p % SM / HB < BI then (0, 0) else if BI + 24 ≤ p % SM / HB then (0, 1) else
  (if sgn SM p then -(((HB + p % HB) / 2 ^ (F + BI - p % SM / HB) : Nat) : Int) else (((HB + p % HB) / 2 ^ (F + BI - p % SM / HB) : Nat) : Int), 0)
section
variable {W E F BI SM MM PM HB FM EM QB MB : Nat} (k : Fk W E F BI SM MM PM HB FM EM QB MB)
include k
theorem Fk.truncBounded (p : Nat) (hp : U64 p) (hF : 23 ≤ F) (w : World) : Calls Tryz.prog 172 #[(.agg #[.int .u64 W, .int .u64 E, .int .u64 F]), .int .u64 p, .int .u64 24] w (Rt (.tuple #[.int .i64 (truncN F BI SM HB EM p).1, .int .u8 (truncN F BI SM HB EM p).2]) w) := by
  have C90 := hidden k.c90
  have C85 := hidden k.c85
  have C89 := hidden k.c89
  have C145 := hidden k.c145
  have C156 := hidden k.c156
  have C158 := hidden k.c158
  have e1 := k.aM p hp
  have e2 := k.sgn_ne p hp
  have e3 := k.sh (p % SM)
  have e4 := k.aF (p % SM) (k.mS p)
  rw [k.frE] at e4
  have e5 := k.oH (p % HB) (Nat.mod_lt _ k.hp)
  have hfr := Nat.mod_lt p k.hp
  have hb2 := k.b2
  have hb4 := k.b4
  have hr8 := hidden k.r8
  have hqm : p % SM / HB ≤ MB := by
    rw [k.mgE]
    exact Nat.le_of_lt_succ (Nat.mod_lt _ (Nat.succ_pos _))
  have hr6 := k.r6
  unfold truncN
  obtain ⟨m, hme⟩ : ∃ m, p % SM = m := ⟨_, rfl⟩
  rw [hme] at e1 e3 e4 hqm ⊢
  obtain ⟨s, hse⟩ : ∃ s, sgn SM p = s := ⟨_, rfl⟩
  rw [hse] at e2 ⊢
  obtain ⟨f, hfe⟩ : ∃ f, p % HB = f := ⟨_, rfl⟩
  rw [hfe] at e4 e5 hfr ⊢
  obtain ⟨q, hqe⟩ : ∃ q, m / HB = q := ⟨_, rfl⟩
  rw [hqe] at e3 hqm ⊢
  obtain ⟨w1, w2, w3⟩ := tnum q BI F hb2 (hr6 ▸ hqm) hb4
  have E3 := hidden e3
  clear hme hse hfe hqe hp e3
  by_cases c1 : EM < m
  · rw [if_pos c1]
    clear hb2 hb4 hr6 hqm hfr hF k
    go_enter Tryz.func172, Tryz.ntmps172
    go_wp2_with (first | (go_at_call 90; (with_reducible refine (C90.out _).mono ?_); rintro _ _ ⟨rfl, x90, rfl⟩) | (go_at_call 85; (with_reducible refine (C85.out _).mono ?_); rintro _ _ ⟨rfl, x85, rfl⟩) | (go_at_call 89; (with_reducible refine (C89.out _).mono ?_); rintro _ _ ⟨rfl, x89, rfl⟩))
    go_ret2
    exact ⟨rfl, Gr.of (by repeat (first | exact Gr.refl _ | refine Gr.alloc ?_ _ | refine Gr.ext ?_ _ | refine Gr.drew ?_))⟩
  rw [if_neg c1]
  obtain ⟨e, he⟩ : ∃ e : Int, (q : Int) - (BI : Int) = e := ⟨_, rfl⟩
  rw [he] at w2
  by_cases c2 : q < BI
  · rw [if_pos c2]
    have c2' := tsg1 he c2
    clear hb2 hb4 hr6 hqm hfr hF k c2
    go_enter Tryz.func172, Tryz.ntmps172
    go_upto_region 6 with (first | (go_at_call 90; (with_reducible refine (C90.out _).mono ?_); rintro _ _ ⟨rfl, x90, rfl⟩) | (go_at_call 85; (with_reducible refine (C85.out _).mono ?_); rintro _ _ ⟨rfl, x85, rfl⟩))
    refine wp_region_ext (by kernel_rfl) (by kernel_rfl) ?_
    repeat (go_big_quiet_step ((go_at_call 145; first | with_reducible exact Calls_ext (C145.out _) | with_reducible exact Calls_ext2 (C145.out _))))
    refine wpQuiet_nil ?_
    rintro w1 ⟨y1, rfl⟩
    simp only [E3.out, w1, w2, he]
    go_wp2_with (fail)
    go_ret2
    exact ⟨rfl, Gr.of (by repeat (first | exact Gr.refl _ | refine Gr.alloc ?_ _ | refine Gr.ext ?_ _ | refine Gr.drew ?_))⟩
  rw [if_neg c2]
  by_cases c3 : BI + 24 ≤ q
  · rw [if_pos c3]
    have c3' := tsg3 he c3
    have c2' := tsg2 he c2
    clear hb2 hb4 hr6 hqm hfr hF k c2 c3
    go_enter Tryz.func172, Tryz.ntmps172
    go_upto_region 6 with (first | (go_at_call 90; (with_reducible refine (C90.out _).mono ?_); rintro _ _ ⟨rfl, x90, rfl⟩) | (go_at_call 85; (with_reducible refine (C85.out _).mono ?_); rintro _ _ ⟨rfl, x85, rfl⟩))
    refine wp_region_ext (by kernel_rfl) (by kernel_rfl) ?_
    repeat (go_big_quiet_step ((go_at_call 145; first | with_reducible exact Calls_ext (C145.out _) | with_reducible exact Calls_ext2 (C145.out _))))
    refine wpQuiet_nil ?_
    rintro w1 ⟨y1, rfl⟩
    simp only [E3.out, w1, w2, he]
    go_wp2_with (fail)
    go_ret2
    exact ⟨rfl, Gr.of (by repeat (first | exact Gr.refl _ | refine Gr.alloc ?_ _ | refine Gr.ext ?_ _ | refine Gr.drew ?_))⟩
  rw [if_neg c3]
  have c3' := tsg4 he c3
  have c2' := tsg2 he c2
  obtain ⟨D, hD⟩ : ∃ D, F + BI - q = D := ⟨_, rfl⟩
  rw [hD]
  obtain ⟨hDe, hDF, hDF2, w4, w5, hD0⟩ := tnum2 q BI F D hD hb4 hF c2 c3
  rw [he] at hDe
  have e6 : ((HB + f : Nat) : Int) / 2 ^ min D 64 = (((HB + f) / 2 ^ D : Nat) : Int) := by rw [Nat.min_eq_left (Nat.le_trans hDF (Nat.le_trans hb4 (by decide)))]; simp
  have hwb : (HB + f) / 2 ^ D < 16777216 := by
    have h1 : HB + f < 2 ^ (F + 1) := by rw [Nat.pow_succ, ← k.r8, Nat.mul_two]; exact Nat.add_lt_add_left hfr _
    have h2 : 2 ^ (F + 1) ≤ 2 ^ (24 + D) := Nat.pow_le_pow_right (by decide) hDF2
    rw [Nat.pow_add 2 24 D] at h2
    exact (Nat.div_lt_iff_lt_mul (Nat.pos_of_ne_zero (by simp))).2 (Nat.lt_of_lt_of_le h1 h2)
  obtain ⟨V, hV⟩ : ∃ V, (HB + f) / 2 ^ D = V := ⟨_, rfl⟩
  rw [hV] at e6 hwb ⊢
  obtain ⟨G, hG⟩ : ∃ G, HB + f = G := ⟨_, rfl⟩
  rw [hG] at e5 e6
  obtain ⟨w6, w7⟩ := tnum3 V hwb
  have E6 := hidden e6
  have HX := hidden (And.intro hDe (And.intro w4 (And.intro w5 hD0)))
  have W6 := hidden w6
  have W7 := hidden w7
  clear hDe w4 w5 hD0 w6 w7
  clear hb2 hb4 hr6 hqm hfr hF k c2 c3 hD hDF hDF2 hwb hV hG e6
  cases s
  · have E2 := hidden e2
    simp only [Bool.false_eq_true, if_false]
    go_enter Tryz.func172, Tryz.ntmps172
    go_upto_region 6 with (first | (go_at_call 90; (with_reducible refine (C90.out _).mono ?_); rintro _ _ ⟨rfl, x90, rfl⟩) | (go_at_call 85; (with_reducible refine (C85.out _).mono ?_); rintro _ _ ⟨rfl, x85, rfl⟩))
    refine wp_region_ext (by kernel_rfl) (by kernel_rfl) ?_
    repeat (go_big_quiet_step ((go_at_call 145; first | with_reducible exact Calls_ext (C145.out _) | with_reducible exact Calls_ext2 (C145.out _))))
    refine wpQuiet_nil ?_
    rintro w1 ⟨y1, rfl⟩
    simp only [E3.out, w1, w2, he]
    go_upto_region 11 with (fail)
    refine wp_region_ext (by kernel_rfl) (by kernel_rfl) ?_
    repeat (go_big_quiet_step ((first | (go_at_call 156; first | with_reducible exact Calls_ext (C156.out _) | with_reducible exact Calls_ext2 (C156.out _)) | (go_at_call 158; first | with_reducible exact Calls_ext (C158.out _) | with_reducible exact Calls_ext2 (C158.out _)))))
    refine wpQuiet_nil ?_
    rintro w2 ⟨y2, rfl⟩
    obtain ⟨hDe, w4, w5, hD0⟩ := HX.out
    clear c2' c3' he w2 w1 e1 e2 e4 e5
    go_upto_region 17 with (fail)
    clear hDe w4 w5 hD0
    simp only [E6.out]
    have e2 := E2.out
    go_wp2_with (first | (go_at_call 90; (with_reducible refine (C90.out _).mono ?_); rintro _ _ ⟨rfl, x90, rfl⟩) | (go_at_call 85; (with_reducible refine (C85.out _).mono ?_); rintro _ _ ⟨rfl, x85, rfl⟩) | (go_at_call 89; (with_reducible refine (C89.out _).mono ?_); rintro _ _ ⟨rfl, x89, rfl⟩))
    go_ret2
    exact ⟨by rw [W6.out]; rfl, Gr.of (by repeat (first | exact Gr.refl _ | refine Gr.alloc ?_ _ | refine Gr.ext ?_ _ | refine Gr.drew ?_))⟩
  · have E2 := hidden e2
    simp only [if_true]
    go_enter Tryz.func172, Tryz.ntmps172
    go_upto_region 6 with (first | (go_at_call 90; (with_reducible refine (C90.out _).mono ?_); rintro _ _ ⟨rfl, x90, rfl⟩) | (go_at_call 85; (with_reducible refine (C85.out _).mono ?_); rintro _ _ ⟨rfl, x85, rfl⟩))
    refine wp_region_ext (by kernel_rfl) (by kernel_rfl) ?_
    repeat (go_big_quiet_step ((go_at_call 145; first | with_reducible exact Calls_ext (C145.out _) | with_reducible exact Calls_ext2 (C145.out _))))
    refine wpQuiet_nil ?_
    rintro w1 ⟨y1, rfl⟩
    simp only [E3.out, w1, w2, he]
    go_upto_region 11 with (fail)
    refine wp_region_ext (by kernel_rfl) (by kernel_rfl) ?_
    repeat (go_big_quiet_step ((first | (go_at_call 156; first | with_reducible exact Calls_ext (C156.out _) | with_reducible exact Calls_ext2 (C156.out _)) | (go_at_call 158; first | with_reducible exact Calls_ext (C158.out _) | with_reducible exact Calls_ext2 (C158.out _)))))
    refine wpQuiet_nil ?_
    rintro w2 ⟨y2, rfl⟩
    obtain ⟨hDe, w4, w5, hD0⟩ := HX.out
    clear c2' c3' he w2 w1 e1 e2 e4 e5
    go_upto_region 17 with (fail)
    clear hDe w4 w5 hD0
    simp only [E6.out]
    have e2 := E2.out
    go_wp2_with (first | (go_at_call 90; (with_reducible refine (C90.out _).mono ?_); rintro _ _ ⟨rfl, x90, rfl⟩) | (go_at_call 85; (with_reducible refine (C85.out _).mono ?_); rintro _ _ ⟨rfl, x85, rfl⟩) | (go_at_call 89; (with_reducible refine (C89.out _).mono ?_); rintro _ _ ⟨rfl, x89, rfl⟩))
    go_ret2
    exact ⟨by rw [W6.out, W7.out]; rfl, Gr.of (by repeat (first | exact Gr.refl _ | refine Gr.alloc ?_ _ | refine Gr.ext ?_ _ | refine Gr.drew ?_))⟩
end
end Go.Proofs.Qxb6500680aGreatDoor
