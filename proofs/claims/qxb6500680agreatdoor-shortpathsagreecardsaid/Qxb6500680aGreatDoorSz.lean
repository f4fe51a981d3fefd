import Derived.Test.Qxb6500680aGreatDoorSy
namespace Go.Proofs.Qxb6500680aGreatDoor
open Go.RowKit Go.BigFrame
set_option linter.unusedSimpArgs false
set_option linter.unusedSectionVars false
attribute [local go_sem] ext_cell_if ext_frozen_if alloc_cell_if alloc_frozen_if ext_size ext_ext calmOp calmAt
theorem shr_u (hi lo n : Nat) (hh : U64 hi) (hl : U64 lo) : U64 (shr128 hi lo n).1 ∧ U64 (shr128 hi lo n).2 := by
  unfold shr128
  split
  · exact ⟨hh, hl⟩
  split
  · exact ⟨div_u hh _, Nat.or_lt_two_pow (n := 64) (div_u hl _) (Nat.mod_lt _ (by decide))⟩
  split
  · exact ⟨by unfold U64; omega, div_u hh _⟩
  · exact ⟨by unfold U64; omega, by unfold U64; omega⟩
theorem addnum (X1 X2 : Int) (h1 : -2000 ≤ X1 ∧ X1 ≤ 2000) (h2 : -2000 ≤ X2 ∧ X2 ≤ 2000) (h : X2 ≤ X1) : wrap64 (X1 - X2) = X1 - X2 ∧ IntKind.u64.wrap (X1 - X2) = ((X1 - X2).toNat : Nat) ∧ wrap64 (X1 - 64) = X1 - 64 := by rw [IntKind.wrap_u64]; unfold wrap64; omega
section
variable {W E F BI SM MM PM HB FM EM QB MB : Nat} (k : Fk W E F BI SM MM PM HB FM EM QB MB)
include k
set_option maxRecDepth 100000 in
set_option maxHeartbeats 4000000 in
theorem Fk.addMain (a b : Nat) (ha : U64 a) (hb : U64 b) (c1 : ¬ EM < a % (2 * SM) % SM) (c2 : ¬ EM < b % (2 * SM) % SM) (c3 : ¬ a % (2 * SM) % SM = EM) (c4 : ¬ b % (2 * SM) % SM = EM) (c5 : ¬ a % (2 * SM) % SM = 0) (c6 : ¬ b % (2 * SM) % SM = 0) : Det2 SM 46 #[(.agg #[.int .u64 W, .int .u64 E, .int .u64 F]), .int .u64 a, .int .u64 b, .int .u8 0] := by
  have C20 := hidden k.c20
  have C90 := hidden k.c90
  have C85 := hidden k.c85
  have C89 := hidden k.c89
  have ep := k.aP a ha
  have eq := k.aP b hb
  have hp := k.mU a
  have hq := k.mU b
  have hpl := Nat.mod_lt a (show 0 < 2 * SM by have := k.sp; omega)
  have hql := Nat.mod_lt b (show 0 < 2 * SM by have := k.sp; omega)
  generalize a % (2 * SM) = p at *
  generalize b % (2 * SM) = q at *
  have C147 := hidden (fun w => k.nanOf2 p q hp hq w)
  have C142 := hidden k.invalid
  have C150 := hidden k.zeroSum
  have U1 := hidden (fun w => k.unpack p hp w)
  have U2 := hidden (fun w => k.unpack q hq w)
  have RP := hidden (fun neg (e : Int) hi lo st h1 h2 h3 h4 w => k.roundPack neg e hi lo st h1 h2 h3 h4 w)
  have RL := hidden (fun neg (e : Int) hi lo st => k.rp_lt neg e hi lo st)
  have hu1 := k.usig_u p
  have hu2 := k.usig_u q
  have hb1 := k.uexp_bd p
  have hb2 := k.uexp_bd q
  have hq1 := quiet_lt k p
  have hq2 := quiet_lt k q
  have hdn := dnan_lt k
  have hsp := k.sp
  have e1 := k.aM p hp
  have e2 := k.aM q hq
  have e3 := bxor p q hp hq
  have e4 := k.sgn_ne (p ^^^ q) (Nat.xor_lt_two_pow (n := 64) hp hq)
  have hz0 : sgw SM false < 2 * SM := by unfold sgw; simp; omega
  have hnr : (if isNan EM SM p then quietN EM SM QB p else quietN EM SM QB q : Nat) < 2 * SM := by split <;> assumption
  have hE0 : EM ≠ 0 := by have h5 := k.r5; have h6 := k.r6; have h7 : HB ≤ MB * HB := Nat.le_mul_of_pos_left _ (by omega); have h8 := k.hp; omega
  generalize (if isNan EM SM p then quietN EM SM QB p else quietN EM SM QB q : Nat) = nr at *
  generalize (if isSig EM SM QB p || isSig EM SM QB q then 16 else 0 : Int) = nf at *
  generalize usig HB MB p = s1 at *
  generalize usig HB MB q = s2 at *
  generalize uexp F BI HB MB p = x1 at *
  generalize uexp F BI HB MB q = x2 at *
  obtain ⟨m, hme⟩ : ∃ m, p % SM = m := ⟨_, rfl⟩
  rw [hme] at e1 c1 c3 c5
  obtain ⟨n, hne⟩ : ∃ m, q % SM = m := ⟨_, rfl⟩
  rw [hne] at e2 c2 c4 c6
  generalize sgn SM (p ^^^ q) = s at *
  generalize p ^^^ q = z at *
  generalize sgn SM p = b1 at *
  generalize sgn SM q = b2 at *
  have bE0 : ((EM : Int) == 0) = false := by rw [nbeq]; simp [hE0]
  clear hme hne ha hb hp hq hq1 hq2 k hE0
  have b3 : ((m : Int) == (EM : Int)) = false := by rw [beq_eq_false_iff_ne]; omega
  have b4 : ((n : Int) == (EM : Int)) = false := by rw [beq_eq_false_iff_ne]; omega
  have b5 : ((m : Int) == 0) = false := by rw [nbeq]; simp [c5]
  have b6 : ((n : Int) == 0) = false := by rw [nbeq]; simp [c6]
  obtain ⟨B1, X1, S1, B2, X2, S2, hsw, hX, hbx1, hbx2, hS1, hS2⟩ : ∃ (B1 : Bool) (X1 : Int) (S1 : Nat) (B2 : Bool) (X2 : Int) (S2 : Nat), ((x1 < x2 ∧ B1 = b2 ∧ X1 = x2 ∧ S1 = s2 ∧ B2 = b1 ∧ X2 = x1 ∧ S2 = s1) ∨ (¬ x1 < x2 ∧ B1 = b1 ∧ X1 = x1 ∧ S1 = s1 ∧ B2 = b2 ∧ X2 = x2 ∧ S2 = s2)) ∧ X2 ≤ X1 ∧ (-2000 ≤ X1 ∧ X1 ≤ 2000) ∧ (-2000 ≤ X2 ∧ X2 ≤ 2000) ∧ U64 S1 ∧ U64 S2 := by
    by_cases cx : x1 < x2
    · exact ⟨b2, x2, s2, b1, x1, s1, .inl ⟨cx, rfl, rfl, rfl, rfl, rfl, rfl⟩, by omega, hb2, hb1, hu2, hu1⟩
    · exact ⟨b1, x1, s1, b2, x2, s2, .inr ⟨cx, rfl, rfl, rfl, rfl, rfl, rfl⟩, by omega, hb1, hb2, hu1, hu2⟩
  have SW := hidden hsw
  have hU0 : U64 0 := by unfold U64; omega
  have C151 : Hid (∀ w, Calls Tryz.prog 151 #[(.agg #[.int .u64 S2, .int .u64 0]), .int .u64 ((X1 - X2).toNat : Nat)] w (Rt (.tuple #[.agg #[.int .u64 ((shr128 S2 0 (X1 - X2).toNat).1 : Nat), .int .u64 ((shr128 S2 0 (X1 - X2).toNat).2 : Nat)], .bool (any128 S2 0 (X1 - X2).toNat)]) w)) := hidden (fun w => shrSticky_eq S2 0 (X1 - X2).toNat hS2 hU0 w)
  obtain ⟨hsu1, hsu2⟩ := shr_u S2 0 (X1 - X2).toNat hS2 hU0
  have WD := addnum X1 X2 hbx1 hbx2 hX
  generalize shr128 S2 0 (X1 - X2).toNat = r at *
  obtain ⟨h3, l3⟩ := r
  dsimp only at C151 hsu1 hsu2
  generalize any128 S2 0 (X1 - X2).toNat = st at *
  obtain ⟨dn, hdnn⟩ : ∃ dn, (X1 - X2).toNat = dn := ⟨_, rfl⟩
  rw [hdnn] at C151 WD
  obtain ⟨xe, hxe⟩ : ∃ xe, X1 - 64 = xe := ⟨_, rfl⟩
  have hxe0 : -100000 ≤ X1 - 64 := by omega
  have hxe1 : X1 - 64 ≤ 100000 := by omega
  obtain ⟨dd, hdd⟩ : ∃ dd, X1 - X2 = dd := ⟨_, rfl⟩
  have WD : Hid (wrap64 (X1 - X2) = dd ∧ IntKind.u64.wrap dd = (dn : Nat) ∧ wrap64 (X1 - 64) = xe) := hidden (by rw [← hdd, ← hxe]; exact WD)
  obtain ⟨M1, L1, hM1, hL1, c152⟩ := add_det S1 0 h3 l3 hU0 hsu2
  obtain ⟨zc, hzc, c153⟩ := cmp_det S1 0 h3 l3
  obtain ⟨M2, L2, hM2, hL2, c154a⟩ := sub_det h3 l3 S1 0
  obtain ⟨M3, L3, hM3, hL3, c154b⟩ := sub_det S1 0 h3 l3
  obtain ⟨M4, L4, hM4, hL4, c154c⟩ := sub_det M3 L3 0 1
  have C152 : Hid (∀ w, Calls Tryz.prog 152 #[.agg #[.int .u64 S1, .int .u64 0], .agg #[.int .u64 h3, .int .u64 l3]] w (Rt (.agg #[.int .u64 M1, .int .u64 L1]) w)) := hidden c152
  have C153 : Hid (∀ w, Calls Tryz.prog 153 #[.agg #[.int .u64 S1, .int .u64 0], .agg #[.int .u64 h3, .int .u64 l3]] w (Rt (.int .i64 zc) w)) := hidden c153
  have A154 : Hid (∀ w, Calls Tryz.prog 154 #[.agg #[.int .u64 h3, .int .u64 l3], .agg #[.int .u64 S1, .int .u64 0]] w (Rt (.agg #[.int .u64 M2, .int .u64 L2]) w)) := hidden c154a
  have B154 : Hid (∀ w, Calls Tryz.prog 154 #[.agg #[.int .u64 S1, .int .u64 0], .agg #[.int .u64 h3, .int .u64 l3]] w (Rt (.agg #[.int .u64 M3, .int .u64 L3]) w)) := hidden c154b
  have D154 : Hid (∀ w, Calls Tryz.prog 154 #[.agg #[.int .u64 M3, .int .u64 L3], .agg #[.int .u64 0, .int .u64 1]] w (Rt (.agg #[.int .u64 M4, .int .u64 L4]) w)) := hidden c154c
  have C149 : Hid (∀ w, Calls Tryz.prog 149 #[.int .u64 1] w (Rt (.agg #[.int .u64 0, .int .u64 1]) w)) := hidden (fun w => wide_eq 1 w)
  have R1 := hidden (fun w => RP.out B1 (X1 - 64) M1 L1 st hM1 hL1 hxe0 hxe1 w)
  have R2 := hidden (fun w => RP.out B2 (X1 - 64) M2 L2 false hM2 hL2 hxe0 hxe1 w)
  have R3 := hidden (fun w => RP.out B1 (X1 - 64) M3 L3 st hM3 hL3 hxe0 hxe1 w)
  have R4 := hidden (fun w => RP.out B1 (X1 - 64) M4 L4 st hM4 hL4 hxe0 hxe1 w)
  have l1 := RL.out B1 (X1 - 64) M1 L1 st
  have l2 := RL.out B2 (X1 - 64) M2 L2 false
  have l3' := RL.out B1 (X1 - 64) M3 L3 st
  have l4 := RL.out B1 (X1 - 64) M4 L4 st
  generalize rpN F BI SM EM HB B1 (X1 - 64) M1 L1 st = g1 at *
  generalize rpN F BI SM EM HB B2 (X1 - 64) M2 L2 false = g2 at *
  generalize rpN F BI SM EM HB B1 (X1 - 64) M3 L3 st = g3 at *
  generalize rpN F BI SM EM HB B1 (X1 - 64) M4 L4 st = g4 at *
  obtain ⟨g1a, g1b⟩ := g1
  obtain ⟨g2a, g2b⟩ := g2
  obtain ⟨g3a, g3b⟩ := g3
  obtain ⟨g4a, g4b⟩ := g4
  dsimp only at R1 R2 R3 R4 l1 l2 l3' l4
  clear c152 c153 c154a c154b c154c hM1 hL1 hM2 hL2 hM3 hL3 hM4 hL4 hdd hxe hdnn hxe0 hxe1 hsu1 hsu2 hU0 hsw hX hbx1 hbx2 hS1 hS2 RP RL hu1 hu2 hb1 hb2 hsp bE0 hdn hpl hql C142
  obtain ⟨ra, rb, hrl, hR⟩ : ∃ (ra : Nat) (rb : Int), ra < 2 * SM ∧ ((s = false → g1a = ra ∧ g1b = rb) ∧ (s = true → zc = 0 → sgw SM false = ra ∧ 0 = rb) ∧ (s = true → zc = -1 → g2a = ra ∧ g2b = rb) ∧ (s = true → zc = 1 → st = false → g3a = ra ∧ g3b = rb) ∧ (s = true → zc = 1 → st = true → g4a = ra ∧ g4b = rb)) := by
    cases s
    · exact ⟨g1a, g1b, l1, by simp⟩
    · rcases hzc with h | h | h
      · subst h; exact ⟨sgw SM false, 0, hz0, by simp⟩
      · subst h; exact ⟨g2a, g2b, l2, by simp⟩
      · subst h
        cases st
        · exact ⟨g3a, g3b, l3', by simp⟩
        · exact ⟨g4a, g4b, l4, by simp⟩
  refine ⟨ra, rb, hrl, fun w => ?_⟩
  have HR := hidden hR
  have HZC := hidden hzc
  clear l1 l2 l3' l4 hz0 hzc hrl hR
  go_enter Tryz.func46, Tryz.ntmps46
  go_upto_region 3 with (go_at_call 20; (with_reducible refine (C20.out _).mono ?_); rintro _ _ ⟨rfl, x20, rfl⟩)
  refine wp_region_ext (by kernel_rfl) (by kernel_rfl) ?_
  repeat (go_big_quiet_step ((go_at_call 90; first | with_reducible exact Calls_ext (C90.out _) | with_reducible exact Calls_ext2 (C90.out _))))
  refine wpQuiet_nil ?_
  rintro w1 ⟨y1, rfl⟩
  try simp only [e1, e2]
  go_upto_region 22 with (first | (go_at_call 85; (with_reducible refine (C85.out _).mono ?_); rintro _ _ ⟨rfl, x85, rfl⟩) | (go_at_call 89; (with_reducible refine (C89.out _).mono ?_); rintro _ _ ⟨rfl, x89, rfl⟩))
  refine wp_gen (fun Wx => Wx.cell? ⟨w.heap.size, 0, none⟩ = some (.int .u64 W) ∧ Wx.cell? ⟨w.heap.size, 1, none⟩ = some (.int .u64 E) ∧ Wx.cell? ⟨w.heap.size, 2, none⟩ = some (.int .u64 F) ∧ w.heap.size < Wx.heap.size ∧ Gr w.heap.size w Wx) ⟨by simp [go_sem, ↓IntWalk.iteOmega], by simp [go_sem, ↓IntWalk.iteOmega], by simp [go_sem, ↓IntWalk.iteOmega], by simp [go_sem]; try omega, (by repeat (first | exact Gr.refl _ | refine Gr.alloc ?_ _ | refine Gr.ext ?_ _ | refine Gr.drew ?_))⟩ ?_
  rintro w2 ⟨k0, k1, k2, hlt, hgr⟩
  obtain ⟨C, hC⟩ : ∃ C, w.heap.size = C := ⟨_, rfl⟩
  rw [hC] at k0 k1 k2 hlt
  try rw [hC]
  clear e1 e2 e3 e4 ep eq c1 c2 c3 c4 c5 c6 b3 b4 b5 b6
  refine wp_region_floatc 6 8 [⟨6, 14, .cells #[.bool false, .int .i64 0, .int .u64 0] 57⟩, ⟨7, 15, .cells #[.bool false, .int .i64 0, .int .u64 0] 57⟩] (by kernel_rfl) (by kernel_rfl) (by kernel_rfl) (by simp [go_sem]) ?_
  simp only [List.take_succ_cons, List.take_zero, List.drop_succ_cons, List.drop_zero]
  repeat (refine wpCalm_step (fun K hK => ?_); go_simp; first | (refine hK _ ?_; clear hK K) | (apply Exists.intro; refine ⟨fun _ => ?_, hK _ ?_⟩; (go_at_call 92; first | with_reducible exact Calls_ext3 (U1.out _) | with_reducible exact Calls_ext3 (U2.out _)); clear hK K))
  refine wpCalm_nil ?_
  intro bb Wm hM
  obtain ⟨m1, m2, m3, m4, m5, m6⟩ := hM.two (by decide)
  simp only [actOf_cons, actOf_nil, if_true] at m1 m2 m3 m4 m5 ⊢
  generalize bb 6 = b8 at *
  generalize bb 7 = b9 at *
  clear hM bb
  have hlt8 := lt_of_cells m2
  have hlt9 := lt_of_cells m4
  have z0 := cell_of_cells m2 0
  have z1 := cell_of_cells m2 1
  have z2 := cell_of_cells m2 2
  have y0 := mark_of_cells m2
  have v0 := cell_of_cells m4 0
  have v1 := cell_of_cells m4 1
  have v2 := cell_of_cells m4 2
  have y1 := mark_of_cells m4
  have j0 : Wm.cell? ⟨C, 0, none⟩ = some (.int .u64 W) := (m6.1.cell (p := ⟨C, 0, none⟩) hlt).trans k0
  have j1 : Wm.cell? ⟨C, 1, none⟩ = some (.int .u64 E) := (m6.1.cell (p := ⟨C, 1, none⟩) hlt).trans k1
  have j2 : Wm.cell? ⟨C, 2, none⟩ = some (.int .u64 F) := (m6.1.cell (p := ⟨C, 2, none⟩) hlt).trans k2
  have hgrW : Gr w.heap.size w Wm := ⟨hgr.1.trans (m6.1.mono hgr.2), Nat.le_trans hgr.2 m6.2⟩
  have hb8 : w.heap.size ≤ b8 := Nat.le_trans hgr.2 m1
  have hb9 : w.heap.size ≤ b9 := Nat.le_trans hgr.2 m3
  have hC8 : C ≠ b8 := by omega
  have hC9 : C ≠ b9 := by omega
  clear m6 k0 k1 k2 hgr
  simp at z0 z1 z2 v0 v1 v2
  simp only [Act.put]
  go_upto_region 23 with (fail)
  refine wp_gen (fun W2 => W2.heap[b8]? = some (.cells #[.bool b1, .int .i64 x1, .int .u64 (s1 : Nat)] 57) ∧ W2.heap[b9]? = some (.cells #[.bool b2, .int .i64 x2, .int .u64 (s2 : Nat)] 57) ∧ W2.cell? ⟨C, 0, none⟩ = some (.int .u64 W) ∧ W2.cell? ⟨C, 1, none⟩ = some (.int .u64 E) ∧ W2.cell? ⟨C, 2, none⟩ = some (.int .u64 F) ∧ C < W2.heap.size ∧ Gr w.heap.size w W2) ⟨?_, ?_, ?_, ?_, ?_, ?_, ?_⟩ ?_
  · have := blk_set (blk_set (blk_set m2 0 (.bool b1)) 1 (.int .i64 x1)) 2 (.int .u64 (s1 : Nat))
    rw [blk_far m5, blk_far m5, blk_far m5]
    refine this.trans ?_
    simp
  · have m4' : (((Wm.setCell ⟨b8, 0, none⟩ (.bool b1)).setCell ⟨b8, 1, none⟩ (.int .i64 x1)).setCell ⟨b8, 2, none⟩ (.int .u64 (s1 : Nat))).heap[b9]? = some (.cells #[.bool false, .int .i64 0, .int .u64 0] 57) := by
      rw [blk_far m5.symm, blk_far m5.symm, blk_far m5.symm]; exact m4
    have := blk_set (blk_set (blk_set m4' 0 (.bool b2)) 1 (.int .i64 x2)) 2 (.int .u64 (s2 : Nat))
    refine this.trans ?_
    simp
  · simp only [cell_far hC8, cell_far hC9]; exact j0
  · simp only [cell_far hC8, cell_far hC9]; exact j1
  · simp only [cell_far hC8, cell_far hC9]; exact j2
  · simp only [size_setCell]; omega
  · exact (((((hgrW.setCell hb8 _).setCell hb8 _).setCell hb8 _).setCell hb9 _).setCell hb9 _).setCell hb9 _
  clear hgrW j0 j1 j2 z0 z1 z2 y0 v0 v1 v2 y1 hlt8 hlt9 m1 m2 m3 m4 hC8 hC9 hlt
  rintro W2 ⟨B8, B9, j0, j1, j2, hlt, hgr⟩
  have hlt8 := lt_of_cells B8
  have hlt9 := lt_of_cells B9
  have z0 := cell_of_cells B8 0
  have z1 := cell_of_cells B8 1
  have z2 := cell_of_cells B8 2
  have v0 := cell_of_cells B9 0
  have v1 := cell_of_cells B9 1
  have v2 := cell_of_cells B9 2
  simp at z0 z1 z2 v0 v1 v2
  have HGr := hidden hgr
  have H8 := hidden hb8
  have H9 := hidden hb9
  have MM5 := hidden m5
  clear hgr hb8 hb9 m5
  have y8 := fun o => mark_of_cells B8 o
  have y9 := fun o => mark_of_cells B9 o
  have HB8 := hidden B8
  have HB9 := hidden B9
  have HJ := hidden (And.intro j0 (And.intro j1 (And.intro j2 hlt)))
  have hne89 := MM5.out
  clear B8 B9
  go_upto_if 117 with (fail)
  go_cut [14, 15] (fun s14 s15 wc => s14 = .pointer (some ⟨b8, 0, none⟩) ∧ s15 = .pointer (some ⟨b9, 0, none⟩) ∧ wc.heap[b8]? = some (.cells #[.bool B1, .int .i64 X1, .int .u64 (S1 : Nat)] 57) ∧ wc.heap[b9]? = some (.cells #[.bool B2, .int .i64 X2, .int .u64 (S2 : Nat)] 57) ∧ wc.cell? ⟨C, 0, none⟩ = some (.int .u64 W) ∧ wc.cell? ⟨C, 1, none⟩ = some (.int .u64 E) ∧ wc.cell? ⟨C, 2, none⟩ = some (.int .u64 F) ∧ C < wc.heap.size ∧ Gr w.heap.size w wc)
  case first =>
    rcases SW.out with ⟨cx, h1, h2, h3, h4, h5, h6⟩ | ⟨cx, h1, h2, h3, h4, h5, h6⟩
    · go_wp2_with (fail)
      go_meet
      case rel =>
        obtain ⟨j0, j1, j2, hlt⟩ := HJ.out
        have hC8 : C ≠ b8 := by intro e; have := HB8.out; rw [← e] at this; have h0 := cell_of_cells this 0; rw [j0] at h0; simp at h0
        have hC9 : C ≠ b9 := by intro e; have := HB9.out; rw [← e] at this; have h0 := cell_of_cells this 0; rw [j0] at h0; simp at h0
        subst h1 h2 h3 h4 h5 h6
        refine ⟨rfl, rfl, ?_, ?_, ?_, ?_, ?_, ?_, ?_⟩
        · have := blk_set (blk_set (blk_set HB8.out 0 (.bool B1)) 1 (.int .i64 X1)) 2 (.int .u64 (S1 : Nat))
          rw [blk_far MM5.out, blk_far MM5.out, blk_far MM5.out]
          refine this.trans ?_
          simp
        · have m4' : (((W2.setCell ⟨b8, 0, none⟩ (.bool B1)).setCell ⟨b8, 1, none⟩ (.int .i64 X1)).setCell ⟨b8, 2, none⟩ (.int .u64 (S1 : Nat))).heap[b9]? = some (.cells #[.bool B1, .int .i64 X1, .int .u64 (S1 : Nat)] 57) := by
            rw [blk_far MM5.out.symm, blk_far MM5.out.symm, blk_far MM5.out.symm]; exact HB9.out
          have := blk_set (blk_set (blk_set m4' 0 (.bool B2)) 1 (.int .i64 X2)) 2 (.int .u64 (S2 : Nat))
          refine this.trans ?_
          simp
        · simp only [cell_far hC8, cell_far hC9]; exact j0
        · simp only [cell_far hC8, cell_far hC9]; exact j1
        · simp only [cell_far hC8, cell_far hC9]; exact j2
        · simp only [size_setCell]; exact hlt
        · exact (((((HGr.out.setCell H8.out _).setCell H8.out _).setCell H8.out _).setCell H9.out _).setCell H9.out _).setCell H9.out _
    · go_wp2_with (fail)
      go_meet
      case rel =>
        obtain ⟨j0, j1, j2, hlt⟩ := HJ.out
        subst h1 h2 h3 h4 h5 h6
        exact ⟨rfl, rfl, HB8.out, HB9.out, j0, j1, j2, hlt, HGr.out⟩
  case rest =>
    obtain ⟨rfl, rfl, B8, B9, j0', j1', j2', hlt', hgr⟩ := hcut
    clear j0 j1 j2 hlt hlt8 hlt9 z0 z1 z2 v0 v1 v2 y8 y9 HB8 HB9 HJ HGr H8 H9 MM5 SW hne89
    have hlt8 := lt_of_cells B8
    have hlt9 := lt_of_cells B9
    have z0 := cell_of_cells B8 0
    have z1 := cell_of_cells B8 1
    have z2 := cell_of_cells B8 2
    have v0 := cell_of_cells B9 0
    have v1 := cell_of_cells B9 1
    have v2 := cell_of_cells B9 2
    simp at z0 z1 z2 v0 v1 v2
    have HGr := hidden hgr
    clear hgr B8 B9
    have wd := WD.out.1
    have wu := WD.out.2.1
    have we := WD.out.2.2
    go_upto_region 28 with (go_at_call 151; (with_reducible refine (C151.out _).mono ?_); rintro _ _ ⟨rfl, x151, rfl⟩)
    clear wd wu we
    go_upto_if 140 with (fail)
    cases s
    · obtain ⟨rfl, rfl⟩ := HR.out.1 (by simp)
      go_upto_region 29 with (fail)
      refine wp_region_ext (by kernel_rfl) (by kernel_rfl) ?_
      repeat (go_big_quiet_step ((first | (go_at_call 152; first | with_reducible exact Calls_ext (C152.out _) | with_reducible exact Calls_ext2 (C152.out _)) | (go_at_call 97; first | with_reducible exact Calls_ext (R1.out _) | with_reducible exact Calls_ext2 (R1.out _)))))
      refine wpQuiet_nil ?_
      rintro w3 ⟨y3, rfl⟩
      go_wp2_with (fail)
      go_ret2
      exact ⟨rfl, Gr.of (by repeat (first | exact HGr.out | refine Gr.alloc ?_ _ | refine Gr.ext ?_ _ | refine Gr.drew ?_))⟩
    · go_upto_region 31 with (go_at_call 153; (with_reducible refine (C153.out _).mono ?_); rintro _ _ ⟨rfl, x153, rfl⟩)
      rcases HZC.out with hz | hz | hz
      · subst hz
        obtain ⟨rfl, rfl⟩ := HR.out.2.1 (by simp) (by simp)
        go_wp2_with (go_at_call 150; (with_reducible refine (C150.out _).mono ?_); rintro _ _ ⟨rfl, x150, rfl⟩)
        go_ret2
        exact ⟨rfl, Gr.of (by repeat (first | exact HGr.out | refine Gr.alloc ?_ _ | refine Gr.ext ?_ _ | refine Gr.drew ?_))⟩
      · subst hz
        obtain ⟨rfl, rfl⟩ := HR.out.2.2.1 (by simp) (by simp)
        go_upto_region 34 with (fail)
        refine wp_region_ext (by kernel_rfl) (by kernel_rfl) ?_
        repeat (go_big_quiet_step ((first | (go_at_call 154; first | with_reducible exact Calls_ext (A154.out _) | with_reducible exact Calls_ext2 (A154.out _)) | (go_at_call 97; first | with_reducible exact Calls_ext (R2.out _) | with_reducible exact Calls_ext2 (R2.out _)))))
        refine wpQuiet_nil ?_
        rintro w3 ⟨y3, rfl⟩
        go_wp2_with (fail)
        go_ret2
        exact ⟨rfl, Gr.of (by repeat (first | exact HGr.out | refine Gr.alloc ?_ _ | refine Gr.ext ?_ _ | refine Gr.drew ?_))⟩
      · subst hz
        cases st
        · obtain ⟨rfl, rfl⟩ := HR.out.2.2.2.1 (by simp) (by simp) (by simp)
          go_wp2_with (first | (go_at_call 154; (with_reducible refine (B154.out _).mono ?_); rintro _ _ ⟨rfl, x154, rfl⟩) | (go_at_call 97; (with_reducible refine (R3.out _).mono ?_); rintro _ _ ⟨rfl, x97, rfl⟩))
          go_ret2
          exact ⟨rfl, Gr.of (by repeat (first | exact HGr.out | refine Gr.alloc ?_ _ | refine Gr.ext ?_ _ | refine Gr.drew ?_))⟩
        · obtain ⟨rfl, rfl⟩ := HR.out.2.2.2.2 (by simp) (by simp) (by simp)
          go_upto_region 37 with (go_at_call 154; (with_reducible refine (B154.out _).mono ?_); rintro _ _ ⟨rfl, x154, rfl⟩)
          refine wp_region_ext_tail 3 (by kernel_rfl) (by kernel_rfl) (by kernel_rfl) ?_
          simp only [List.take_succ_cons, List.take_zero, List.drop_succ_cons, List.drop_zero]
          repeat (go_big_quiet_step ((first | (go_at_call 149; first | with_reducible exact Calls_ext (C149.out _) | with_reducible exact Calls_ext2 (C149.out _)) | (go_at_call 154; first | with_reducible exact Calls_ext (D154.out _) | with_reducible exact Calls_ext2 (D154.out _)))))
          refine wpQuiet_nil ?_
          rintro w4 ⟨x4, rfl⟩
          go_wp2_with (go_at_call 97; (with_reducible refine (R4.out _).mono ?_); rintro _ _ ⟨rfl, x97, rfl⟩)
          go_ret2
          refine ⟨rfl, Gr.of ?_⟩
          have hle := HGr.out.2
          refine Gr.ext (Gr.setCell (Gr.setCell (Gr.ext (Gr.alloc (Gr.ext (Gr.alloc (Gr.ext (Gr.alloc HGr.out _) _) _) _) _) _) ?_ _) ?_ _) _
          · dsimp only; omega
          · dsimp only; omega
set_option maxRecDepth 100000 in
set_option maxHeartbeats 40000000 in
theorem Fk.add (a b : Nat) (ha : U64 a) (hb : U64 b) : Det2 SM 46 #[(.agg #[.int .u64 W, .int .u64 E, .int .u64 F]), .int .u64 a, .int .u64 b, .int .u8 0] := by
  have HM := hidden (k.addMain a b ha hb)
  have C20 := hidden k.c20
  have C90 := hidden k.c90
  have C85 := hidden k.c85
  have C89 := hidden k.c89
  have ep := k.aP a ha
  have eq := k.aP b hb
  have hp := k.mU a
  have hq := k.mU b
  have hpl := Nat.mod_lt a (show 0 < 2 * SM by have := k.sp; omega)
  have hql := Nat.mod_lt b (show 0 < 2 * SM by have := k.sp; omega)
  generalize a % (2 * SM) = p at *
  generalize b % (2 * SM) = q at *
  have C147 := hidden (fun w => k.nanOf2 p q hp hq w)
  have C142 := hidden k.invalid
  have C150 := hidden k.zeroSum
  have U1 := hidden (fun w => k.unpack p hp w)
  have U2 := hidden (fun w => k.unpack q hq w)
  have RP := hidden (fun neg (e : Int) hi lo st h1 h2 h3 h4 w => k.roundPack neg e hi lo st h1 h2 h3 h4 w)
  have RL := hidden (fun neg (e : Int) hi lo st => k.rp_lt neg e hi lo st)
  have hu1 := k.usig_u p
  have hu2 := k.usig_u q
  have hb1 := k.uexp_bd p
  have hb2 := k.uexp_bd q
  have hq1 := quiet_lt k p
  have hq2 := quiet_lt k q
  have hdn := dnan_lt k
  have hsp := k.sp
  have e1 := k.aM p hp
  have e2 := k.aM q hq
  have e3 := bxor p q hp hq
  have e4 := k.sgn_ne (p ^^^ q) (Nat.xor_lt_two_pow (n := 64) hp hq)
  have hz0 : sgw SM false < 2 * SM := by unfold sgw; simp; omega
  have hnr : (if isNan EM SM p then quietN EM SM QB p else quietN EM SM QB q : Nat) < 2 * SM := by split <;> assumption
  have hE0 : EM ≠ 0 := by have h5 := k.r5; have h6 := k.r6; have h7 : HB ≤ MB * HB := Nat.le_mul_of_pos_left _ (by omega); have h8 := k.hp; omega
  generalize (if isNan EM SM p then quietN EM SM QB p else quietN EM SM QB q : Nat) = nr at *
  generalize (if isSig EM SM QB p || isSig EM SM QB q then 16 else 0 : Int) = nf at *
  generalize usig HB MB p = s1 at *
  generalize usig HB MB q = s2 at *
  generalize uexp F BI HB MB p = x1 at *
  generalize uexp F BI HB MB q = x2 at *
  obtain ⟨m, hme⟩ : ∃ m, p % SM = m := ⟨_, rfl⟩
  rw [hme] at e1 HM
  obtain ⟨n, hne⟩ : ∃ m, q % SM = m := ⟨_, rfl⟩
  rw [hne] at e2 HM
  generalize sgn SM (p ^^^ q) = s at *
  generalize p ^^^ q = z at *
  generalize sgn SM p = b1 at *
  generalize sgn SM q = b2 at *
  have bE0 : ((EM : Int) == 0) = false := by rw [nbeq]; simp [hE0]
  clear hme hne ha hb hp hq hq1 hq2 k hE0
  by_cases c1 : EM < m
  · refine ⟨nr, nf, hnr, fun w => ?_⟩
    clear bE0 hz0 hdn hpl hql hu1 hu2 hb1 hb2 hsp hnr
    go_enter Tryz.func46, Tryz.ntmps46
    go_upto_region 3 with (go_at_call 20; (with_reducible refine (C20.out _).mono ?_); rintro _ _ ⟨rfl, x20, rfl⟩)
    refine wp_region_ext (by kernel_rfl) (by kernel_rfl) ?_
    repeat (go_big_quiet_step ((go_at_call 90; first | with_reducible exact Calls_ext (C90.out _) | with_reducible exact Calls_ext2 (C90.out _))))
    refine wpQuiet_nil ?_
    rintro w1 ⟨y1, rfl⟩
    try simp only [e1, e2]
    go_wp2_with (first | (go_at_call 85; (with_reducible refine (C85.out _).mono ?_); rintro _ _ ⟨rfl, x85, rfl⟩) | (go_at_call 89; (with_reducible refine (C89.out _).mono ?_); rintro _ _ ⟨rfl, x89, rfl⟩) | (go_at_call 147; (with_reducible refine (C147.out _).mono ?_); rintro _ _ ⟨rfl, x147, rfl⟩) | (go_at_call 142; (with_reducible refine (C142.out _).mono ?_); rintro _ _ ⟨rfl, x142, rfl⟩) | (go_at_call 150; (with_reducible refine (C150.out _).mono ?_); rintro _ _ ⟨rfl, x150, rfl⟩))
    go_ret2
    exact ⟨rfl, Gr.of (by repeat (first | exact Gr.refl _ | refine Gr.alloc ?_ _ | refine Gr.ext ?_ _ | refine Gr.drew ?_))⟩
  by_cases c2 : EM < n
  · refine ⟨nr, nf, hnr, fun w => ?_⟩
    clear bE0 hz0 hdn hpl hql hu1 hu2 hb1 hb2 hsp hnr
    go_enter Tryz.func46, Tryz.ntmps46
    go_upto_region 3 with (go_at_call 20; (with_reducible refine (C20.out _).mono ?_); rintro _ _ ⟨rfl, x20, rfl⟩)
    refine wp_region_ext (by kernel_rfl) (by kernel_rfl) ?_
    repeat (go_big_quiet_step ((go_at_call 90; first | with_reducible exact Calls_ext (C90.out _) | with_reducible exact Calls_ext2 (C90.out _))))
    refine wpQuiet_nil ?_
    rintro w1 ⟨y1, rfl⟩
    try simp only [e1, e2]
    go_wp2_with (first | (go_at_call 85; (with_reducible refine (C85.out _).mono ?_); rintro _ _ ⟨rfl, x85, rfl⟩) | (go_at_call 89; (with_reducible refine (C89.out _).mono ?_); rintro _ _ ⟨rfl, x89, rfl⟩) | (go_at_call 147; (with_reducible refine (C147.out _).mono ?_); rintro _ _ ⟨rfl, x147, rfl⟩) | (go_at_call 142; (with_reducible refine (C142.out _).mono ?_); rintro _ _ ⟨rfl, x142, rfl⟩) | (go_at_call 150; (with_reducible refine (C150.out _).mono ?_); rintro _ _ ⟨rfl, x150, rfl⟩))
    go_ret2
    exact ⟨rfl, Gr.of (by repeat (first | exact Gr.refl _ | refine Gr.alloc ?_ _ | refine Gr.ext ?_ _ | refine Gr.drew ?_))⟩
  clear C147 hnr
  by_cases c3 : m = EM
  · subst c3
    by_cases c4 : n = m
    · subst c4
      cases s
      · refine ⟨p, 0, hpl, fun w => ?_⟩
        clear bE0 hz0 hdn hpl hql hu1 hu2 hb1 hb2 hsp
        go_enter Tryz.func46, Tryz.ntmps46
        go_upto_region 3 with (go_at_call 20; (with_reducible refine (C20.out _).mono ?_); rintro _ _ ⟨rfl, x20, rfl⟩)
        refine wp_region_ext (by kernel_rfl) (by kernel_rfl) ?_
        repeat (go_big_quiet_step ((go_at_call 90; first | with_reducible exact Calls_ext (C90.out _) | with_reducible exact Calls_ext2 (C90.out _))))
        refine wpQuiet_nil ?_
        rintro w1 ⟨y1, rfl⟩
        try simp only [e1, e2]
        go_wp2_with (first | (go_at_call 85; (with_reducible refine (C85.out _).mono ?_); rintro _ _ ⟨rfl, x85, rfl⟩) | (go_at_call 89; (with_reducible refine (C89.out _).mono ?_); rintro _ _ ⟨rfl, x89, rfl⟩) | (go_at_call 147; (with_reducible refine (C147.out _).mono ?_); rintro _ _ ⟨rfl, x147, rfl⟩) | (go_at_call 142; (with_reducible refine (C142.out _).mono ?_); rintro _ _ ⟨rfl, x142, rfl⟩) | (go_at_call 150; (with_reducible refine (C150.out _).mono ?_); rintro _ _ ⟨rfl, x150, rfl⟩))
        go_ret2
        exact ⟨rfl, Gr.of (by repeat (first | exact Gr.refl _ | refine Gr.alloc ?_ _ | refine Gr.ext ?_ _ | refine Gr.drew ?_))⟩
      · refine ⟨n ||| QB, 16, hdn, fun w => ?_⟩
        clear bE0 hz0 hdn hpl hql hu1 hu2 hb1 hb2 hsp
        go_enter Tryz.func46, Tryz.ntmps46
        go_upto_region 3 with (go_at_call 20; (with_reducible refine (C20.out _).mono ?_); rintro _ _ ⟨rfl, x20, rfl⟩)
        refine wp_region_ext (by kernel_rfl) (by kernel_rfl) ?_
        repeat (go_big_quiet_step ((go_at_call 90; first | with_reducible exact Calls_ext (C90.out _) | with_reducible exact Calls_ext2 (C90.out _))))
        refine wpQuiet_nil ?_
        rintro w1 ⟨y1, rfl⟩
        try simp only [e1, e2]
        go_wp2_with (first | (go_at_call 85; (with_reducible refine (C85.out _).mono ?_); rintro _ _ ⟨rfl, x85, rfl⟩) | (go_at_call 89; (with_reducible refine (C89.out _).mono ?_); rintro _ _ ⟨rfl, x89, rfl⟩) | (go_at_call 147; (with_reducible refine (C147.out _).mono ?_); rintro _ _ ⟨rfl, x147, rfl⟩) | (go_at_call 142; (with_reducible refine (C142.out _).mono ?_); rintro _ _ ⟨rfl, x142, rfl⟩) | (go_at_call 150; (with_reducible refine (C150.out _).mono ?_); rintro _ _ ⟨rfl, x150, rfl⟩))
        go_ret2
        exact ⟨rfl, Gr.of (by repeat (first | exact Gr.refl _ | refine Gr.alloc ?_ _ | refine Gr.ext ?_ _ | refine Gr.drew ?_))⟩
    · have b4 : ((n : Int) == (m : Int)) = false := by rw [beq_eq_false_iff_ne]; omega
      refine ⟨p, 0, hpl, fun w => ?_⟩
      clear bE0 hz0 hdn hpl hql hu1 hu2 hb1 hb2 hsp
      go_enter Tryz.func46, Tryz.ntmps46
      go_upto_region 3 with (go_at_call 20; (with_reducible refine (C20.out _).mono ?_); rintro _ _ ⟨rfl, x20, rfl⟩)
      refine wp_region_ext (by kernel_rfl) (by kernel_rfl) ?_
      repeat (go_big_quiet_step ((go_at_call 90; first | with_reducible exact Calls_ext (C90.out _) | with_reducible exact Calls_ext2 (C90.out _))))
      refine wpQuiet_nil ?_
      rintro w1 ⟨y1, rfl⟩
      try simp only [e1, e2]
      go_wp2_with (first | (go_at_call 85; (with_reducible refine (C85.out _).mono ?_); rintro _ _ ⟨rfl, x85, rfl⟩) | (go_at_call 89; (with_reducible refine (C89.out _).mono ?_); rintro _ _ ⟨rfl, x89, rfl⟩) | (go_at_call 147; (with_reducible refine (C147.out _).mono ?_); rintro _ _ ⟨rfl, x147, rfl⟩) | (go_at_call 142; (with_reducible refine (C142.out _).mono ?_); rintro _ _ ⟨rfl, x142, rfl⟩) | (go_at_call 150; (with_reducible refine (C150.out _).mono ?_); rintro _ _ ⟨rfl, x150, rfl⟩))
      go_ret2
      exact ⟨rfl, Gr.of (by repeat (first | exact Gr.refl _ | refine Gr.alloc ?_ _ | refine Gr.ext ?_ _ | refine Gr.drew ?_))⟩
  have b3 : ((m : Int) == (EM : Int)) = false := by rw [beq_eq_false_iff_ne]; omega
  by_cases c4 : n = EM
  · subst c4
    refine ⟨q, 0, hql, fun w => ?_⟩
    clear bE0 hz0 hdn hpl hql hu1 hu2 hb1 hb2 hsp
    go_enter Tryz.func46, Tryz.ntmps46
    go_upto_region 3 with (go_at_call 20; (with_reducible refine (C20.out _).mono ?_); rintro _ _ ⟨rfl, x20, rfl⟩)
    refine wp_region_ext (by kernel_rfl) (by kernel_rfl) ?_
    repeat (go_big_quiet_step ((go_at_call 90; first | with_reducible exact Calls_ext (C90.out _) | with_reducible exact Calls_ext2 (C90.out _))))
    refine wpQuiet_nil ?_
    rintro w1 ⟨y1, rfl⟩
    try simp only [e1, e2]
    go_wp2_with (first | (go_at_call 85; (with_reducible refine (C85.out _).mono ?_); rintro _ _ ⟨rfl, x85, rfl⟩) | (go_at_call 89; (with_reducible refine (C89.out _).mono ?_); rintro _ _ ⟨rfl, x89, rfl⟩) | (go_at_call 147; (with_reducible refine (C147.out _).mono ?_); rintro _ _ ⟨rfl, x147, rfl⟩) | (go_at_call 142; (with_reducible refine (C142.out _).mono ?_); rintro _ _ ⟨rfl, x142, rfl⟩) | (go_at_call 150; (with_reducible refine (C150.out _).mono ?_); rintro _ _ ⟨rfl, x150, rfl⟩))
    go_ret2
    exact ⟨rfl, Gr.of (by repeat (first | exact Gr.refl _ | refine Gr.alloc ?_ _ | refine Gr.ext ?_ _ | refine Gr.drew ?_))⟩
  have b4 : ((n : Int) == (EM : Int)) = false := by rw [beq_eq_false_iff_ne]; omega
  by_cases c5 : m = 0
  · subst c5
    by_cases c6 : n = 0
    · subst c6
      cases s
      · refine ⟨p, 0, hpl, fun w => ?_⟩
        clear bE0 hz0 hdn hpl hql hu1 hu2 hb1 hb2 hsp
        go_enter Tryz.func46, Tryz.ntmps46
        go_upto_region 3 with (go_at_call 20; (with_reducible refine (C20.out _).mono ?_); rintro _ _ ⟨rfl, x20, rfl⟩)
        refine wp_region_ext (by kernel_rfl) (by kernel_rfl) ?_
        repeat (go_big_quiet_step ((go_at_call 90; first | with_reducible exact Calls_ext (C90.out _) | with_reducible exact Calls_ext2 (C90.out _))))
        refine wpQuiet_nil ?_
        rintro w1 ⟨y1, rfl⟩
        try simp only [e1, e2]
        go_wp2_with (first | (go_at_call 85; (with_reducible refine (C85.out _).mono ?_); rintro _ _ ⟨rfl, x85, rfl⟩) | (go_at_call 89; (with_reducible refine (C89.out _).mono ?_); rintro _ _ ⟨rfl, x89, rfl⟩) | (go_at_call 147; (with_reducible refine (C147.out _).mono ?_); rintro _ _ ⟨rfl, x147, rfl⟩) | (go_at_call 142; (with_reducible refine (C142.out _).mono ?_); rintro _ _ ⟨rfl, x142, rfl⟩) | (go_at_call 150; (with_reducible refine (C150.out _).mono ?_); rintro _ _ ⟨rfl, x150, rfl⟩))
        go_ret2
        exact ⟨rfl, Gr.of (by repeat (first | exact Gr.refl _ | refine Gr.alloc ?_ _ | refine Gr.ext ?_ _ | refine Gr.drew ?_))⟩
      · refine ⟨sgw SM false, 0, hz0, fun w => ?_⟩
        clear bE0 hz0 hdn hpl hql hu1 hu2 hb1 hb2 hsp
        go_enter Tryz.func46, Tryz.ntmps46
        go_upto_region 3 with (go_at_call 20; (with_reducible refine (C20.out _).mono ?_); rintro _ _ ⟨rfl, x20, rfl⟩)
        refine wp_region_ext (by kernel_rfl) (by kernel_rfl) ?_
        repeat (go_big_quiet_step ((go_at_call 90; first | with_reducible exact Calls_ext (C90.out _) | with_reducible exact Calls_ext2 (C90.out _))))
        refine wpQuiet_nil ?_
        rintro w1 ⟨y1, rfl⟩
        try simp only [e1, e2]
        go_wp2_with (first | (go_at_call 85; (with_reducible refine (C85.out _).mono ?_); rintro _ _ ⟨rfl, x85, rfl⟩) | (go_at_call 89; (with_reducible refine (C89.out _).mono ?_); rintro _ _ ⟨rfl, x89, rfl⟩) | (go_at_call 147; (with_reducible refine (C147.out _).mono ?_); rintro _ _ ⟨rfl, x147, rfl⟩) | (go_at_call 142; (with_reducible refine (C142.out _).mono ?_); rintro _ _ ⟨rfl, x142, rfl⟩) | (go_at_call 150; (with_reducible refine (C150.out _).mono ?_); rintro _ _ ⟨rfl, x150, rfl⟩))
        go_ret2
        exact ⟨rfl, Gr.of (by repeat (first | exact Gr.refl _ | refine Gr.alloc ?_ _ | refine Gr.ext ?_ _ | refine Gr.drew ?_))⟩
    · have b6 : ((n : Int) == 0) = false := by rw [nbeq]; simp [c6]
      refine ⟨q, 0, hql, fun w => ?_⟩
      clear bE0 hz0 hdn hpl hql hu1 hu2 hb1 hb2 hsp
      go_enter Tryz.func46, Tryz.ntmps46
      go_upto_region 3 with (go_at_call 20; (with_reducible refine (C20.out _).mono ?_); rintro _ _ ⟨rfl, x20, rfl⟩)
      refine wp_region_ext (by kernel_rfl) (by kernel_rfl) ?_
      repeat (go_big_quiet_step ((go_at_call 90; first | with_reducible exact Calls_ext (C90.out _) | with_reducible exact Calls_ext2 (C90.out _))))
      refine wpQuiet_nil ?_
      rintro w1 ⟨y1, rfl⟩
      try simp only [e1, e2]
      go_wp2_with (first | (go_at_call 85; (with_reducible refine (C85.out _).mono ?_); rintro _ _ ⟨rfl, x85, rfl⟩) | (go_at_call 89; (with_reducible refine (C89.out _).mono ?_); rintro _ _ ⟨rfl, x89, rfl⟩) | (go_at_call 147; (with_reducible refine (C147.out _).mono ?_); rintro _ _ ⟨rfl, x147, rfl⟩) | (go_at_call 142; (with_reducible refine (C142.out _).mono ?_); rintro _ _ ⟨rfl, x142, rfl⟩) | (go_at_call 150; (with_reducible refine (C150.out _).mono ?_); rintro _ _ ⟨rfl, x150, rfl⟩))
      go_ret2
      exact ⟨rfl, Gr.of (by repeat (first | exact Gr.refl _ | refine Gr.alloc ?_ _ | refine Gr.ext ?_ _ | refine Gr.drew ?_))⟩
  have b5 : ((m : Int) == 0) = false := by rw [nbeq]; simp [c5]
  by_cases c6 : n = 0
  · subst c6
    refine ⟨p, 0, hpl, fun w => ?_⟩
    clear bE0 hz0 hdn hpl hql hu1 hu2 hb1 hb2 hsp
    go_enter Tryz.func46, Tryz.ntmps46
    go_upto_region 3 with (go_at_call 20; (with_reducible refine (C20.out _).mono ?_); rintro _ _ ⟨rfl, x20, rfl⟩)
    refine wp_region_ext (by kernel_rfl) (by kernel_rfl) ?_
    repeat (go_big_quiet_step ((go_at_call 90; first | with_reducible exact Calls_ext (C90.out _) | with_reducible exact Calls_ext2 (C90.out _))))
    refine wpQuiet_nil ?_
    rintro w1 ⟨y1, rfl⟩
    try simp only [e1, e2]
    go_wp2_with (first | (go_at_call 85; (with_reducible refine (C85.out _).mono ?_); rintro _ _ ⟨rfl, x85, rfl⟩) | (go_at_call 89; (with_reducible refine (C89.out _).mono ?_); rintro _ _ ⟨rfl, x89, rfl⟩) | (go_at_call 147; (with_reducible refine (C147.out _).mono ?_); rintro _ _ ⟨rfl, x147, rfl⟩) | (go_at_call 142; (with_reducible refine (C142.out _).mono ?_); rintro _ _ ⟨rfl, x142, rfl⟩) | (go_at_call 150; (with_reducible refine (C150.out _).mono ?_); rintro _ _ ⟨rfl, x150, rfl⟩))
    go_ret2
    exact ⟨rfl, Gr.of (by repeat (first | exact Gr.refl _ | refine Gr.alloc ?_ _ | refine Gr.ext ?_ _ | refine Gr.drew ?_))⟩
  exact HM.out c1 c2 c3 c4 c5 c6
set_option maxRecDepth 100000 in
theorem Fk.sub (a b : Nat) (ha : U64 a) (hb : U64 b) : Det2 SM 47 #[(.agg #[.int .u64 W, .int .u64 E, .int .u64 F]), .int .u64 a, .int .u64 b, .int .u8 0] := by
  have A78 := hidden (fun w => k.isNaN a ha w)
  have B78 := hidden (fun w => k.isNaN b hb w)
  have C147 := hidden (fun w => k.nanOf2 a b ha hb w)
  have C155 := hidden (fun w => k.neg b hb w)
  have hq1 := quiet_lt k a
  have hq2 := quiet_lt k b
  have hnr : (if isNan EM SM a then quietN EM SM QB a else quietN EM SM QB b : Nat) < 2 * SM := by split <;> assumption
  obtain ⟨r, fl, hr, c46⟩ := k.add a ((b ^^^ SM) % (2 * SM)) ha (k.mU _)
  have C46 := hidden c46
  generalize (if isNan EM SM a then quietN EM SM QB a else quietN EM SM QB b : Nat) = nr at *
  generalize (if isSig EM SM QB a || isSig EM SM QB b then 16 else 0 : Int) = nf at *
  generalize isNan EM SM a = x at *
  generalize isNan EM SM b = y at *
  generalize (b ^^^ SM) % (2 * SM) = z at *
  clear k ha hb c46 hq1 hq2
  have ARM := True.intro
  cases x
  · cases y
    · refine ⟨r, fl, hr, fun w => ?_⟩
      clear hr hnr ARM
      go_enter Tryz.func47, Tryz.ntmps47
      go_upto_region 3 with (go_at_call 78; first | ((with_reducible refine (A78.out _).mono ?_); rintro _ _ ⟨rfl, x1, rfl⟩) | ((with_reducible refine (B78.out _).mono ?_); rintro _ _ ⟨rfl, x2, rfl⟩))
      refine wp_region_ext (by kernel_rfl) (by kernel_rfl) ?_
      repeat (go_big_quiet_step ((first | (go_at_call 155; first | with_reducible exact Calls_ext (C155.out _) | with_reducible exact Calls_ext2 (C155.out _)) | (go_at_call 46; first | with_reducible exact Calls_ext (C46.out _) | with_reducible exact Calls_ext2 (C46.out _)))))
      refine wpQuiet_nil ?_
      rintro w1 ⟨y1, rfl⟩
      go_wp2_with (fail)
      go_ret2
      exact ⟨rfl, Gr.of (by repeat (first | exact Gr.refl _ | refine Gr.alloc ?_ _ | refine Gr.ext ?_ _ | refine Gr.drew ?_))⟩
    · refine ⟨nr, nf, hnr, fun w => ?_⟩
      clear hr hnr ARM
      go_enter Tryz.func47, Tryz.ntmps47
      go_wp2_with (first | (go_at_call 78; first | ((with_reducible refine (A78.out _).mono ?_); rintro _ _ ⟨rfl, x1, rfl⟩) | ((with_reducible refine (B78.out _).mono ?_); rintro _ _ ⟨rfl, x2, rfl⟩)) | (go_at_call 147; (with_reducible refine (C147.out _).mono ?_); rintro _ _ ⟨rfl, x147, rfl⟩))
      go_ret2
      exact ⟨rfl, Gr.of (by repeat (first | exact Gr.refl _ | refine Gr.alloc ?_ _ | refine Gr.ext ?_ _ | refine Gr.drew ?_))⟩
  · refine ⟨nr, nf, hnr, fun w => ?_⟩
    clear hr hnr ARM
    go_enter Tryz.func47, Tryz.ntmps47
    go_wp2_with (first | (go_at_call 78; first | ((with_reducible refine (A78.out _).mono ?_); rintro _ _ ⟨rfl, x1, rfl⟩) | ((with_reducible refine (B78.out _).mono ?_); rintro _ _ ⟨rfl, x2, rfl⟩)) | (go_at_call 147; (with_reducible refine (C147.out _).mono ?_); rintro _ _ ⟨rfl, x147, rfl⟩))
    go_ret2
    exact ⟨rfl, Gr.of (by repeat (first | exact Gr.refl _ | refine Gr.alloc ?_ _ | refine Gr.ext ?_ _ | refine Gr.drew ?_))⟩
end
end Go.Proofs.Qxb6500680aGreatDoor
