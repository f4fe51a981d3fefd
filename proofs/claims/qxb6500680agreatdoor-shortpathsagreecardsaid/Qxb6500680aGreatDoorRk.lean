import Derived.Test.Qxb6500680aGreatDoorQt32
import Derived.Test.Qxb6500680aGreatDoorQt64
import Derived.Test.Qxb6500680aGreatDoorFloatc
namespace Go.Proofs.Qxb6500680aGreatDoor
open Go.RowKit Go.BigFrame
set_option linter.unusedSimpArgs false
attribute [local go_sem] ext_cell_if ext_frozen_if alloc_cell_if alloc_frozen_if ext_size ext_ext calmOp calmAt
/-- A call that answers one number. -/
def R1 (k : IntKind) (w : World) (e : Ending) (w' : World) : Prop := ∃ a : Int, e = .returned (.int k a) ∧ InR k a ∧ ∃ x, w' = ext w x
/-- A call that answers two numbers. -/
def R2 (k1 k2 : IntKind) (w : World) (e : Ending) (w' : World) : Prop := ∃ a b : Int, e = .returned (.tuple #[.int k1 a, .int k2 b]) ∧ InR k1 a ∧ InR k2 b ∧ ∃ x, w' = ext w x
theorem known1 {f : FuncId} {sa : List Sh1} {k : IntKind} (h : findSg ((sgs Tryz.prog l3).reverse ++ ((sgs Tryz.prog l2).reverse ++ ((sgs Tryz.prog l1).reverse ++ ev0.fs))) f = some ⟨f, sa, .one (.cell (.int k))⟩) (hn : nameOK Tryz.prog f = true) (args : Array Value) (ha : HasT sa args.toList) (w : World) (hw : Gw w) : Calls Tryz.prog f args w (R1 k w) :=
  (known_calls h hn args ha w hw).mono fun e w' ⟨v, he, hv, hx⟩ => by
    obtain ⟨a, rfl, hr⟩ := hv (fun _ => none)
    exact ⟨a, he, hr, hx⟩
theorem known2 {f : FuncId} {sa : List Sh1} {k1 k2 : IntKind} (h : findSg ((sgs Tryz.prog l3).reverse ++ ((sgs Tryz.prog l2).reverse ++ ((sgs Tryz.prog l1).reverse ++ ev0.fs))) f = some ⟨f, sa, .tup [.cell (.int k1), .cell (.int k2)]⟩) (hn : nameOK Tryz.prog f = true) (args : Array Value) (ha : HasT sa args.toList) (w : World) (hw : Gw w) : Calls Tryz.prog f args w (R2 k1 k2 w) :=
  (known_calls h hn args ha w hw).mono fun e w' ⟨v, he, hv, hx⟩ => by
    obtain ⟨arr, rfl, hr⟩ := hv (fun _ => none)
    obtain ⟨l⟩ := arr
    match l, hr with
    | [u, v], hr =>
      obtain ⟨⟨a, rfl, ha⟩, ⟨b, rfl, hb⟩, _⟩ := hr
      exact ⟨a, b, he, ha, hb, hx⟩
/-- A format of the two. -/
def Fm (W E F : Int) : Prop := (W = 32 ∧ E = 8 ∧ F = 23) ∨ (W = 64 ∧ E = 11 ∧ F = 52)
theorem Fm.has {W E F : Int} (h : Fm W E F) : Has1 (.agg fmtL) (.agg #[.int .u64 W, .int .u64 E, .int .u64 F]) := by
  have hr : ∀ n : Int, (0 ≤ n ∧ n ≤ 18446744073709551615) → InR .u64 n := fun n h => u64_in n h.1 h.2
  exact ⟨_, rfl, ⟨_, rfl, hr _ (by unfold Fm at h; omega)⟩, ⟨_, rfl, hr _ (by unfold Fm at h; omega)⟩, ⟨_, rfl, hr _ (by unfold Fm at h; omega)⟩, trivial⟩
theorem hasI {k : IntKind} {n : Int} (h : InR k n) : Has1 (.cell (.int k)) (.int k n) := ⟨n, rfl, h⟩
theorem hasB (b : Bool) : Has1 (.cell .bool) (.bool b) := ⟨b, rfl⟩
theorem u64r {n : Int} (h : InR .u64 n) : 0 ≤ n ∧ n ≤ 18446744073709551615 := h
set_option maxRecDepth 100000 in
set_option maxHeartbeats 2000000 in
theorem div32 (p q : Nat) (md : Int) (hp : p ≤ 18446744073709551615) (hq : q ≤ 18446744073709551615) (hmd : InR .u8 md) (w : World) (hw : Gw w) : Calls Tryz.prog 45 #[(.agg #[.int .u64 32, .int .u64 8, .int .u64 23]), .int .u64 p, .int .u64 q, .int .u8 md] w (R2 .u64 .u8 w) := by
  have FF := (show Fm 32 8 23 from .inl ⟨rfl, rfl, rfl⟩).has
  have hpr : InR .u64 (p : Int) := u64_in _ (by omega) (by omega)
  have hqr : InR .u64 (q : Int) := u64_in _ (by omega) (by omega)
  have C147 := hidden (fun (w : World) (hw : Gw w) => known2 (f := 147) (k1 := .u64) (k2 := .u8) (sa := [.agg fmtL, .cell (.int .u64), .cell (.int .u64)]) (by kernel_rfl) (by kernel_rfl) #[(.agg #[.int .u64 32, .int .u64 8, .int .u64 23]), .int .u64 p, .int .u64 q] ⟨FF, hasI hpr, hasI hqr, trivial⟩ w hw)
  have C142 := hidden (fun (w : World) (hw : Gw w) => known2 (f := 142) (k1 := .u64) (k2 := .u8) (sa := [.agg fmtL]) (by kernel_rfl) (by kernel_rfl) #[(.agg #[.int .u64 32, .int .u64 8, .int .u64 23])] ⟨FF, trivial⟩ w hw)
  have C143 := hidden (fun (b : Bool) (w : World) (hw : Gw w) => known1 (f := 143) (k := .u64) (sa := [.agg fmtL, .cell .bool]) (by kernel_rfl) (by kernel_rfl) #[(.agg #[.int .u64 32, .int .u64 8, .int .u64 23]), .bool b] ⟨FF, hasB b, trivial⟩ w hw)
  have C94 := hidden (fun (b : Bool) (w : World) (hw : Gw w) => known1 (f := 94) (k := .u64) (sa := [.agg fmtL, .cell .bool]) (by kernel_rfl) (by kernel_rfl) #[(.agg #[.int .u64 32, .int .u64 8, .int .u64 23]), .bool b] ⟨FF, hasB b, trivial⟩ w hw)
  have C97 := hidden (fun (b c : Bool) (z : Int) (v : Nat) (hv : v ≤ 18446744073709551615) (w : World) (hw : Gw w) => known2 (f := 97) (k1 := .u64) (k2 := .u8) (sa := [.agg fmtL, .cell (.int .u8), .cell .bool, .cell (.int .i64), .agg [.int .u64, .int .u64], .cell .bool]) (by kernel_rfl) (by kernel_rfl) #[(.agg #[.int .u64 32, .int .u64 8, .int .u64 23]), .int .u8 md, .bool b, .int .i64 (wrap64 z), .agg #[.int .u64 0, .int .u64 v], .bool c] ⟨FF, hasI hmd, hasB b, hasI (wrap64_bd z), ⟨_, rfl, ⟨_, rfl, u64_in 0 (by decide) (by decide)⟩, ⟨_, rfl, u64_in v (by omega) (by omega)⟩, trivial⟩, hasB c, trivial⟩ w hw)
  have HW := hidden hw
  have ep : bits .and .u64 (p : Int) 2147483647 = ((p % 2147483648 : Nat) : Int) := by
    have h := and_low 31 (by decide) p (by omega)
    rw [show (2147483647 : Int) = ((2 ^ 31 - 1 : Nat) : Int) by decide, h, show (2 : Nat) ^ 31 = 2147483648 by decide]
  have eq : bits .and .u64 (q : Int) 2147483647 = ((q % 2147483648 : Nat) : Int) := by
    have h := and_low 31 (by decide) q (by omega)
    rw [show (2147483647 : Int) = ((2 ^ 31 - 1 : Nat) : Int) by decide, h, show (2 : Nat) ^ 31 = 2147483648 by decide]
  obtain ⟨b1, x1, s1, hx1, hs1, hz1, U1⟩ := unpack32 p hp
  obtain ⟨x3, s3, hx3, hs3, hz3, A1⟩ := leftAlign_any b1 x1 s1 hs1
  obtain ⟨b2, x2, s2, hx2, hs2, hz2, U2⟩ := unpack32 q hq
  obtain ⟨x4, s4, hx4, hs4, hz4, A2⟩ := leftAlign_any b2 x2 s2 hs2
  have U1 := hidden U1
  have U2 := hidden U2
  have A1 := hidden A1
  have A2 := hidden A2
  obtain ⟨lo, hlo, hlob⟩ := wr_nat ((s3 : Int) * 9223372036854775808)
  have DV : Hid (q % 2147483648 ≠ 0 → ∀ w : World, Calls Tryz.prog 148 #[.int .u64 ((s3 : Int) / 2), .int .u64 lo, .int .u64 s4] w (DivOK w)) := hidden (fun h w => by
    have := div64_any (s3 / 2) lo s4 (by have := hz4 (hz2 h); omega) hlob hs4 w
    rwa [show ((s3 / 2 : Nat) : Int) = (s3 : Int) / 2 by simp] at this)
  generalize p % 2147483648 = P at *
  generalize q % 2147483648 = R at *
  clear hz1 hz2 hz3 hz4 hx1 hx2 hs1 hs2 hp hq FF hpr hqr hmd
  go_enter Tryz.func45, Tryz.ntmps45
  go_upto_region 1 with (fail)
  refine wp_region_ext (by kernel_rfl) (by kernel_rfl) ?_
  repeat (go_big_quiet_step ((go_at_call 90; first | with_reducible exact Calls_ext (magMask32 _) | with_reducible exact Calls_ext2 (magMask32 _))))
  refine wpQuiet_nil ?_
  rintro w1 ⟨g1, rfl⟩
  try simp only [ep, eq]
  clear ep eq
  have fin : ∀ (n s : Int) (a : Act) (w' : World), a.defers = [] → a.tmps[8]? = some (.int .u64 n) → a.tmps[9]? = some (.int .u8 s) → InR .u64 n → InR .u8 s → (∃ x, w' = ext w x) → bodyPost Tryz.prog Tryz.f45 (R2 .u64 .u8 w) .ret a w' := by
    intro n s a w' hd h8 h9 hn hs hx
    exact bodyPost_ret (v := .tuple #[.int .u64 n, .int .u8 s]) (by simp [results, Tryz.results45, go_sem, h8, h9]) hd ⟨n, s, rfl, hn, hs, hx⟩
  have fin := hidden fin
  by_cases cc : P < 2139095040 ∧ R < 2139095040 ∧ P ≠ 0 ∧ R ≠ 0
  · obtain ⟨c1, c2, c3, c4⟩ := cc
    have DV := hidden (DV.out c4)
    have e1 : ((P : Int) == 2139095040) = false := by rw [beq_eq_false_iff_ne]; omega
    have e2 : ((R : Int) == 2139095040) = false := by rw [beq_eq_false_iff_ne]; omega
    have e3 : ((P : Int) == 0) = false := by rw [beq_eq_false_iff_ne]; omega
    have e4 : ((R : Int) == 0) = false := by rw [beq_eq_false_iff_ne]; omega
    go_upto_region 16 with (first | (go_at_call 85; (with_reducible refine (expMask32 _).mono ?_); rintro _ _ ⟨rfl, g2, rfl⟩) | (go_at_call 89; (with_reducible refine (signMask32 _).mono ?_); rintro _ _ ⟨rfl, g3, rfl⟩))
    refine wp_gen (fun W => W.cell? ⟨w.heap.size, 0, none⟩ = some (.int .u64 32) ∧ W.cell? ⟨w.heap.size, 1, none⟩ = some (.int .u64 8) ∧ W.cell? ⟨w.heap.size, 2, none⟩ = some (.int .u64 23) ∧ w.heap.size < W.heap.size ∧ Gr w.heap.size w W) ⟨by simp [go_sem, ↓IntWalk.iteOmega], by simp [go_sem, ↓IntWalk.iteOmega], by simp [go_sem, ↓IntWalk.iteOmega], by simp [go_sem]; omega, (by repeat (first | exact Gr.refl _ | refine Gr.alloc ?_ _ | refine Gr.ext ?_ _ | refine Gr.drew ?_ | refine Gr.setCell ?_ (by simp) _))⟩ ?_
    rintro w2 ⟨k0, k1, k2, hlt, hgr⟩
    clear g1 g2 g3 e1 e2 e3 e4
    obtain ⟨C, hC⟩ : ∃ C, w.heap.size = C := ⟨_, rfl⟩
    rw [hC] at k0 k1 k2 hlt
    rw [hC]
    refine wp_region_floatc 8 10 [⟨8, 14, .cells #[.bool false, .int .i64 0, .int .u64 0] 57⟩, ⟨9, 15, .cells #[.bool false, .int .i64 0, .int .u64 0] 57⟩] (by kernel_rfl) (by kernel_rfl) (by kernel_rfl) (by simp [go_sem]) ?_
    simp only [List.take_succ_cons, List.take_zero, List.drop_succ_cons, List.drop_zero]
    repeat (refine wpCalm_step (fun K hK => ?_); go_simp; first | (refine hK _ ?_; clear hK K) | (apply Exists.intro; refine ⟨fun _ => ?_, hK _ ?_⟩; (first | (go_at_call 92; first | with_reducible exact Calls_ext3 (U1.out _) | with_reducible exact Calls_ext3 (U2.out _)) | (go_at_call 93; first | with_reducible exact Calls_ext3 (A1.out _) | with_reducible exact Calls_ext3 (A2.out _))); clear hK K))
    refine wpCalm_nil ?_
    intro bb W hM
    obtain ⟨m1, m2, m3, m4, m5, m6⟩ := hM.two (by decide)
    simp only [actOf_cons, actOf_nil, if_true] at m1 m2 m3 m4 m5 ⊢
    generalize bb 8 = b8 at *
    generalize bb 9 = b9 at *
    clear hM bb
    have hlt8 := lt_of_cells m2
    have hlt9 := lt_of_cells m4
    have z0 := cell_of_cells m2 0
    have z1 := cell_of_cells m2 1
    have z2 := cell_of_cells m2 2
    have y0 := mark_of_cells m2
    have v0 := cell_of_cells m4 0
    have v1 := cell_of_cells m4 1
    have v2 := cell_of_cells m4 2
    have y1 := mark_of_cells m4
    have j0 : W.cell? ⟨C, 0, none⟩ = some (.int .u64 32) := (m6.1.cell (p := ⟨C, 0, none⟩) hlt).trans k0
    have j1 : W.cell? ⟨C, 1, none⟩ = some (.int .u64 8) := (m6.1.cell (p := ⟨C, 1, none⟩) hlt).trans k1
    have j2 : W.cell? ⟨C, 2, none⟩ = some (.int .u64 23) := (m6.1.cell (p := ⟨C, 2, none⟩) hlt).trans k2
    have hgrW : Gr w.heap.size w W := ⟨hgr.1.trans (m6.1.mono hgr.2), Nat.le_trans hgr.2 m6.2⟩
    have hb8 : w.heap.size ≤ b8 := Nat.le_trans hgr.2 m1
    have hb9 : w.heap.size ≤ b9 := Nat.le_trans hgr.2 m3
    have hC8 : C ≠ b8 := by omega
    have hC9 : C ≠ b9 := by omega
    clear m6 k0 k1 k2 hgr
    simp at z0 z1 z2 v0 v1 v2
    simp only [Act.put]
    go_upto_region 17 with (fail)
    refine wp_gen (fun W2 => W2.heap[b8]? = some (.cells #[.bool b1, .int .i64 x3, .int .u64 s3] 57) ∧ W2.heap[b9]? = some (.cells #[.bool b2, .int .i64 x4, .int .u64 s4] 57) ∧ W2.cell? ⟨C, 0, none⟩ = some (.int .u64 32) ∧ W2.cell? ⟨C, 1, none⟩ = some (.int .u64 8) ∧ W2.cell? ⟨C, 2, none⟩ = some (.int .u64 23) ∧ C < W2.heap.size ∧ Gr w.heap.size w W2) ⟨?_, ?_, ?_, ?_, ?_, ?_, ?_⟩ ?_
    · have := blk_set (blk_set (blk_set m2 0 (.bool b1)) 1 (.int .i64 x3)) 2 (.int .u64 s3)
      rw [blk_far m5, blk_far m5, blk_far m5]
      refine this.trans ?_
      simp
    · have m4' : (((W.setCell ⟨b8, 0, none⟩ (.bool b1)).setCell ⟨b8, 1, none⟩ (.int .i64 x3)).setCell ⟨b8, 2, none⟩ (.int .u64 s3)).heap[b9]? = some (.cells #[.bool false, .int .i64 0, .int .u64 0] 57) := by
        rw [blk_far m5.symm, blk_far m5.symm, blk_far m5.symm]; exact m4
      have := blk_set (blk_set (blk_set m4' 0 (.bool b2)) 1 (.int .i64 x4)) 2 (.int .u64 s4)
      refine this.trans ?_
      simp
    · simp only [cell_far hC8, cell_far hC9]; exact j0
    · simp only [cell_far hC8, cell_far hC9]; exact j1
    · simp only [cell_far hC8, cell_far hC9]; exact j2
    · simp only [size_setCell]; omega
    · exact (((((hgrW.setCell hb8 _).setCell hb8 _).setCell hb8 _).setCell hb9 _).setCell hb9 _).setCell hb9 _
    clear hgrW j0 j1 j2 z0 z1 z2 y0 v0 v1 v2 y1 hlt8 hlt9 m1 m2 m3 m4 hC8 hC9 hlt
    rintro W2 ⟨B8, B9, j0, j1, j2, hlt, hgr⟩
    have hlt8 := lt_of_cells B8
    have hlt9 := lt_of_cells B9
    have z0 := cell_of_cells B8 0
    have z1 := cell_of_cells B8 1
    have z2 := cell_of_cells B8 2
    have v0 := cell_of_cells B9 0
    have v1 := cell_of_cells B9 1
    have v2 := cell_of_cells B9 2
    simp at z0 z1 z2 v0 v1 v2
    go_upto_region 18 with (go_at_call 148; (try simp only [hlo]); (with_reducible refine (DV.out _).mono ?_); rintro _ _ ⟨q5, r5, rfl, hq5, hr5, g5, rfl⟩)
    refine wp_region_pivot 13 (by kernel_rfl) (by kernel_rfl) (by kernel_rfl) ?_
    simp only [List.take_succ_cons, List.take_zero, List.drop_succ_cons, List.drop_zero]
    repeat (go_big_quiet_step ((go_at_call 149; first | with_reducible exact Calls_ext (wide64_any q5 _) | with_reducible exact Calls_ext2 (wide64_any q5 _))))
    refine wpQuiet_nil ?_
    rintro w4 ⟨g4, rfl⟩
    have HGr := hidden hgr
    go_wp2_with (go_at_call 97; (with_reducible refine (C97.out _ _ _ _ hq5 _ (Gw.gr _ _ HW.out (by repeat (first | exact HGr.out | refine Gr.alloc ?_ _ | refine Gr.ext ?_ _ | refine Gr.drew ?_)))).mono ?_); rintro _ _ ⟨n6, s6, rfl, hn6, hs6, g6, rfl⟩)
    simp only [endBy]
    repeat (go_big_quiet_step ((fail)))
    refine wpQuiet_nil ?_
    go_wp2_with (fail)
    exact fin.out _ _ _ _ rfl rfl rfl hn6 hs6 (Gr.of (by repeat (first | exact HGr.out | refine Gr.alloc ?_ _ | refine Gr.ext ?_ _ | refine Gr.drew ?_)))
  · go_wp2_with (first | (go_at_call 85; (with_reducible refine (expMask32 _).mono ?_); rintro _ _ ⟨rfl, g2, rfl⟩) | (go_at_call 89; (with_reducible refine (signMask32 _).mono ?_); rintro _ _ ⟨rfl, g3, rfl⟩) | (go_at_call 147; (with_reducible refine (C147.out _ (Gw.gr _ _ HW.out (by repeat (first | exact Gr.refl _ | refine Gr.alloc ?_ _ | refine Gr.ext ?_ _ | refine Gr.drew ?_ | refine Gr.setCell ?_ (by simp) _)))).mono ?_); rintro _ _ ⟨n5, s5, rfl, hn5, hs5, g5, rfl⟩) | (go_at_call 142; (with_reducible refine (C142.out _ (Gw.gr _ _ HW.out (by repeat (first | exact Gr.refl _ | refine Gr.alloc ?_ _ | refine Gr.ext ?_ _ | refine Gr.drew ?_ | refine Gr.setCell ?_ (by simp) _)))).mono ?_); rintro _ _ ⟨n5, s5, rfl, hn5, hs5, g5, rfl⟩) | (go_at_call 143; (with_reducible refine (C143.out _ _ (Gw.gr _ _ HW.out (by repeat (first | exact Gr.refl _ | refine Gr.alloc ?_ _ | refine Gr.ext ?_ _ | refine Gr.drew ?_ | refine Gr.setCell ?_ (by simp) _)))).mono ?_); rintro _ _ ⟨n5, rfl, hn5, g5, rfl⟩) | (go_at_call 94; (with_reducible refine (C94.out _ _ (Gw.gr _ _ HW.out (by repeat (first | exact Gr.refl _ | refine Gr.alloc ?_ _ | refine Gr.ext ?_ _ | refine Gr.drew ?_ | refine Gr.setCell ?_ (by simp) _)))).mono ?_); rintro _ _ ⟨n5, rfl, hn5, g5, rfl⟩))
    all_goals first | (exfalso; simp only [beq_eq_false_iff_ne] at *; omega) | exact fin.out _ _ _ _ rfl rfl rfl hn5 hs5 (Gr.of (by repeat (first | exact Gr.refl _ | refine Gr.alloc ?_ _ | refine Gr.ext ?_ _ | refine Gr.drew ?_ | refine Gr.setCell ?_ (by simp) _))) | exact fin.out _ _ _ _ rfl rfl rfl hn5 ⟨by decide, by decide⟩ (Gr.of (by repeat (first | exact Gr.refl _ | refine Gr.alloc ?_ _ | refine Gr.ext ?_ _ | refine Gr.drew ?_ | refine Gr.setCell ?_ (by simp) _)))
end Go.Proofs.Qxb6500680aGreatDoor
