import Derived.Test.Qxb6500680aGreatDoorSx
namespace Go.Proofs.Qxb6500680aGreatDoor
open Go.RowKit Go.BigFrame
set_option linter.unusedSimpArgs false
set_option linter.unusedSectionVars false
attribute [local go_sem] ext_cell_if ext_frozen_if alloc_cell_if alloc_frozen_if ext_size ext_ext calmOp calmAt
/-! The Multiplier's functions, their callees as premises. -/
set_option maxRecDepth 100000 in
theorem w37 (W E F : Nat) (p ex sg lx ls : Int) (s : Bool) (w : World) : Calls Tryz.prog 37 #[.agg #[.int .u64 W, .int .u64 E, .int .u64 F, .int .u64 p, .bool s, .int .i64 ex, .int .u64 sg, .bool s, .int .i64 lx, .int .u64 ls]] w (Rt (.int .u64 p) w) := by
  go_enter Tryz.func37, Tryz.ntmps37
  go_wp2_with (fail)
  go_ret
  exact ⟨rfl, Gr.of (by repeat (first | exact Gr.refl _ | refine Gr.alloc ?_ _ | refine Gr.ext ?_ _ | refine Gr.drew ?_ | refine Gr.setCell ?_ (by simp) _))⟩
set_option maxRecDepth 100000 in
theorem w38 (W E F : Nat) (p ex sg lx ls : Int) (s : Bool) (w : World) : Calls Tryz.prog 38 #[.agg #[.int .u64 W, .int .u64 E, .int .u64 F, .int .u64 p, .bool s, .int .i64 ex, .int .u64 sg, .bool s, .int .i64 lx, .int .u64 ls]] w (Rt (.agg #[.int .u64 W, .int .u64 E, .int .u64 F]) w) := by
  go_enter Tryz.func38, Tryz.ntmps38
  go_wp2_with (fail)
  exact bodyPost_ret (v := .agg #[.int .u64 W, .int .u64 E, .int .u64 F]) (by simp [results, Tryz.results38, go_sem, ↓IntWalk.iteOmega]) rfl ⟨rfl, Gr.of (by repeat (first | exact Gr.refl _ | refine Gr.alloc ?_ _ | refine Gr.ext ?_ _ | refine Gr.drew ?_ | refine Gr.setCell ?_ (by simp) _))⟩
set_option maxRecDepth 100000 in
theorem w39 (W E F : Nat) (p ex sg lx ls o : Int) (s : Bool) (C40 : Hid (∀ w, Calls Tryz.prog 40 #[.agg #[.int .u64 W, .int .u64 E, .int .u64 F], .bool false] w (Rt (.int .u64 o) w))) (w : World) : Calls Tryz.prog 39 #[.agg #[.int .u64 W, .int .u64 E, .int .u64 F, .int .u64 p, .bool s, .int .i64 ex, .int .u64 sg, .bool s, .int .i64 lx, .int .u64 ls]] w (Rt (.bool (p == o)) w) := by
  go_enter Tryz.func39, Tryz.ntmps39
  go_upto_region 1 with (fail)
  refine wp_region_ext (by kernel_rfl) (by kernel_rfl) ?_
  repeat (go_big_quiet_step ((go_at_call 40; first | with_reducible exact Calls_ext (C40.out _) | with_reducible exact Calls_ext2 (C40.out _))))
  refine wpQuiet_nil ?_
  rintro w1 ⟨y1, rfl⟩
  go_wp2_with (fail)
  go_ret
  exact ⟨rfl, Gr.of (by repeat (first | exact Gr.refl _ | refine Gr.alloc ?_ _ | refine Gr.ext ?_ _ | refine Gr.drew ?_ | refine Gr.setCell ?_ (by simp) _))⟩
set_option maxRecDepth 100000 in
theorem w40 (W E F : Nat) (b x y : Int) (hb : IntKind.u64.wrap b = b) (hF : IntKind.u64.wrap (b * 2 ^ min F 64) = x) (C145 : Hid (∀ w, Calls Tryz.prog 145 #[.agg #[.int .u64 W, .int .u64 E, .int .u64 F]] w (Rt (.int .i64 b) w))) (C88 : Hid (∀ w, Calls Tryz.prog 88 #[.agg #[.int .u64 W, .int .u64 E, .int .u64 F], .int .u64 x, .bool false] w (Rt (.int .u64 y) w))) (w : World) : Calls Tryz.prog 40 #[.agg #[.int .u64 W, .int .u64 E, .int .u64 F], .bool false] w (Rt (.int .u64 y) w) := by
  go_enter Tryz.func40, Tryz.ntmps40
  go_upto_region 1 with (fail)
  refine wp_region_ext (by kernel_rfl) (by kernel_rfl) ?_
  repeat (go_big_quiet_step (first | (go_at_call 145; first | with_reducible exact Calls_ext (C145.out _) | with_reducible exact Calls_ext2 (C145.out _)) | (go_at_call 88; first | with_reducible exact Calls_ext (C88.out _) | with_reducible exact Calls_ext2 (C88.out _))))
  refine wpQuiet_nil ?_
  rintro w1 ⟨y1, rfl⟩
  go_wp2_with (fail)
  go_ret
  exact ⟨rfl, Gr.of (by repeat (first | exact Gr.refl _ | refine Gr.alloc ?_ _ | refine Gr.ext ?_ _ | refine Gr.drew ?_ | refine Gr.setCell ?_ (by simp) _))⟩
set_option maxRecDepth 100000 in
theorem w29z (W E F : Nat) (p ex sg lx ls z : Int) (s : Bool) (C94 : Hid (∀ w, Calls Tryz.prog 94 #[.agg #[.int .u64 W, .int .u64 E, .int .u64 F], .bool s] w (Rt (.int .u64 z) w))) (w : World) : Calls Tryz.prog 29 #[.agg #[.int .u64 W, .int .u64 E, .int .u64 F, .int .u64 p, .bool s, .int .i64 ex, .int .u64 sg, .bool s, .int .i64 lx, .int .u64 ls], .int .i32 0] w (Rt (.tuple #[.int .u64 z, .int .u8 0]) w) := by
  cases s
  all_goals
    go_enter Tryz.func29, Tryz.ntmps29
    go_wp2_with ((go_at_call 94; (with_reducible refine (C94.out _).mono ?_); rintro _ _ ⟨rfl, x94, rfl⟩))
    go_ret2
    exact ⟨rfl, Gr.of (by repeat (first | exact Gr.refl _ | refine Gr.alloc ?_ _ | refine Gr.ext ?_ _ | refine Gr.drew ?_ | refine Gr.setCell ?_ (by simp) _))⟩
set_option maxRecDepth 100000 in
theorem w29 (W E F : Nat) (p ex sg lx ls n un hi lo r fl : Int) (s ng : Bool) (n0 : (n == 0) = false) (b0 : -2147483648 ≤ n) (b1 : n ≤ 2147483647) (hng : (!(s == decide (n < 0))) = ng)
    (C96 : Hid (∀ w, Calls Tryz.prog 96 #[.int .i64 n] w (Rt (.int .u64 un) w))) (C95 : Hid (∀ w, Calls Tryz.prog 95 #[.int .u64 sg, .int .u64 un] w (Rt (.agg #[.int .u64 hi, .int .u64 lo]) w)))
    (C97 : Hid (∀ w, Calls Tryz.prog 97 #[.agg #[.int .u64 W, .int .u64 E, .int .u64 F], .int .u8 0, .bool ng, .int .i64 ex, .agg #[.int .u64 hi, .int .u64 lo], .bool false] w (Rt (.tuple #[.int .u64 r, .int .u8 fl]) w)))
    (w : World) : Calls Tryz.prog 29 #[.agg #[.int .u64 W, .int .u64 E, .int .u64 F, .int .u64 p, .bool s, .int .i64 ex, .int .u64 sg, .bool s, .int .i64 lx, .int .u64 ls], .int .i32 n] w (Rt (.tuple #[.int .u64 r, .int .u8 fl]) w) := by
  have hwn : IntKind.i64.wrap n = n := by rw [IntKind.wrap_i64]; omega
  obtain ⟨C, hC⟩ : ∃ C, w.heap.size = C := ⟨_, rfl⟩
  go_enter Tryz.func29, Tryz.ntmps29
  go_upto_region 4 with (fail)
  try simp only [hng]
  refine wp_gen (fun W1 => W1.heap[C]? = some (.cells #[.int .u64 W, .int .u64 E, .int .u64 F, .int .u64 p, .bool s, .int .i64 ex, .int .u64 sg, .bool s, .int .i64 lx, .int .u64 ls] 59) ∧ Gr w.heap.size w W1) ⟨?_, ?_⟩ ?_
  · rw [← hC]
    exact heap_new _ _
  · exact (Gr.refl w).alloc _
  rintro W1 ⟨h1, g1⟩
  have l1 := lt_of_cells h1
  have u0 := cell_of_cells h1 0
  have u1 := cell_of_cells h1 1
  have u2 := cell_of_cells h1 2
  have u5 := cell_of_cells h1 5
  have u6 := cell_of_cells h1 6
  simp at u0 u1 u2 u5 u6
  refine wp_region_float 7 8 [⟨7, 7, .cells #[.int .u64 0, .int .u64 0] 134⟩] (by kernel_rfl) (by kernel_rfl) (by kernel_rfl) (by simp [go_sem]) ?_
  simp only [List.take_succ_cons, List.take_zero, List.drop_succ_cons, List.drop_zero]
  repeat (refine wpCalm_step (fun K hK => ?_); go_simp; (try simp only [hwn]); first | (refine hK _ ?_; clear hK K) | (apply Exists.intro; refine ⟨fun _ => ?_, hK _ ?_⟩; (first | (go_at_call 96; with_reducible exact Calls_ext3 (C96.out _)) | (go_at_call 95; with_reducible exact Calls_ext3 (C95.out _))); clear hK K))
  refine wpCalm_nil ?_
  intro bb Wm hM
  obtain ⟨m1, m2, m6⟩ := hM.one
  simp only [actOf_cons, actOf_nil, if_true] at m1 m2 ⊢
  generalize bb 7 = b8 at *
  clear hM bb
  have lt8 := lt_of_cells m2
  have z0 := cell_of_cells m2 0
  have z1 := cell_of_cells m2 1
  have y0 := mark_of_cells m2
  simp at z0 z1
  have hgrW : Gr w.heap.size w Wm := ⟨g1.1.trans (m6.1.mono g1.2), Nat.le_trans g1.2 m6.2⟩
  have hb8 : w.heap.size ≤ b8 := Nat.le_trans g1.2 m1
  have hC8 : C ≠ b8 := by omega
  have H1 : Wm.heap[C]? = some (.cells #[.int .u64 W, .int .u64 E, .int .u64 F, .int .u64 p, .bool s, .int .i64 ex, .int .u64 sg, .bool s, .int .i64 lx, .int .u64 ls] 59) := (m6.1.block C l1).trans h1
  clear u0 u1 u2 u5 u6 h1 g1 m6 m1
  simp only [Act.put]
  go_upto_region 5 with (fail)
  refine wp_gen (fun W2 => W2.heap[b8]? = some (.cells #[.int .u64 hi, .int .u64 lo] 134) ∧ W2.heap[C]? = some (.cells #[.int .u64 W, .int .u64 E, .int .u64 F, .int .u64 p, .bool s, .int .i64 ex, .int .u64 sg, .bool s, .int .i64 lx, .int .u64 ls] 59) ∧ Gr w.heap.size w W2) ⟨?_, ?_, ?_⟩ ?_
  · refine (blk_set (blk_set m2 0 (.int .u64 hi)) 1 (.int .u64 lo)).trans ?_
    simp
  · rw [blk_far hC8, blk_far hC8]; exact H1
  · exact (hgrW.setCell hb8 _).setCell hb8 _
  clear hgrW m2 H1 z0 z1 y0 lt8 l1
  rintro W2 ⟨B8, B9, hgr⟩
  have lt8 := lt_of_cells B8
  have lt9 := lt_of_cells B9
  have v0 := cell_of_cells B8 0
  have v1 := cell_of_cells B8 1
  have u0 := cell_of_cells B9 0
  have u1 := cell_of_cells B9 1
  have u2 := cell_of_cells B9 2
  have u5 := cell_of_cells B9 5
  simp at v0 v1 u0 u1 u2 u5
  have G := hidden hgr
  clear hgr B8 B9
  go_wp2_with ((go_at_call 97; (with_reducible refine (C97.out _).mono ?_); rintro _ _ ⟨rfl, x97, rfl⟩))
  go_ret2
  exact ⟨rfl, Gr.of (G.out.ext _)⟩
set_option maxRecDepth 100000 in
theorem w32a (W E F : Nat) (p ex sg lx ls x MM EM m f : Int) (s : Bool) (e1 : bits .and .u64 x MM = m)
    (C90 : Hid (∀ w, Calls Tryz.prog 90 #[.agg #[.int .u64 W, .int .u64 E, .int .u64 F]] w (Rt (.int .u64 MM) w))) (C85 : Hid (∀ w, Calls Tryz.prog 85 #[.agg #[.int .u64 W, .int .u64 E, .int .u64 F]] w (Rt (.int .u64 EM) w)))
    (hO : (EM < m ∧ f = 2) ∨ (¬ EM < m ∧ m = EM ∧ f = 3) ∨ (¬ EM < m ∧ (m == EM) = false ∧ m = 0 ∧ f = 0)) (w : World) : Calls Tryz.prog 32 #[.agg #[.int .u64 W, .int .u64 E, .int .u64 F, .int .u64 p, .bool s, .int .i64 ex, .int .u64 sg, .bool s, .int .i64 lx, .int .u64 ls], .int .u64 x] w (Rt (.tuple #[.int .i32 0, .int .u8 f]) w) := by
  rcases hO with ⟨c1, rfl⟩ | ⟨c1, rfl, rfl⟩ | ⟨c1, c2, rfl, rfl⟩
  all_goals
    go_enter Tryz.func32, Tryz.ntmps32
    go_wp2_with (first | (go_at_call 90; (with_reducible refine (C90.out _).mono ?_); rintro _ _ ⟨rfl, x90, rfl⟩) | (go_at_call 85; (with_reducible refine (C85.out _).mono ?_); rintro _ _ ⟨rfl, x85, rfl⟩))
    go_ret2
    exact ⟨rfl, Gr.of (by repeat (first | exact Gr.refl _ | refine Gr.alloc ?_ _ | refine Gr.ext ?_ _ | refine Gr.drew ?_ | refine Gr.setCell ?_ (by simp) _))⟩
set_option maxRecDepth 100000 in
theorem w32b (W E F : Nat) (p ex sg lx ls x MM EM m r f ex2 sg2 lx2 ls2 : Int) (s s2 : Bool) (e1 : bits .and .u64 x MM = m) (hr : IntKind.i32.wrap r = r)
    (C90 : Hid (∀ w, Calls Tryz.prog 90 #[.agg #[.int .u64 W, .int .u64 E, .int .u64 F]] w (Rt (.int .u64 MM) w))) (C85 : Hid (∀ w, Calls Tryz.prog 85 #[.agg #[.int .u64 W, .int .u64 E, .int .u64 F]] w (Rt (.int .u64 EM) w)))
    (C92 : Hid (∀ w, Calls Tryz.prog 92 #[.agg #[.int .u64 W, .int .u64 E, .int .u64 F], .int .u64 x] w (Rt (.agg #[.bool s2, .int .i64 ex2, .int .u64 sg2]) w)))
    (C93 : Hid (∀ w, Calls Tryz.prog 93 #[.agg #[.bool s2, .int .i64 ex2, .int .u64 sg2]] w (Rt (.agg #[.bool s2, .int .i64 lx2, .int .u64 ls2]) w)))
    (C98 : Hid (∀ w, Calls Tryz.prog 98 #[.agg #[.bool s2, .int .i64 lx2, .int .u64 ls2], .agg #[.bool s, .int .i64 lx, .int .u64 ls], .int .u64 24] w (Rt (.tuple #[.int .i64 r, .int .u8 f]) w)))
    (c1 : ¬ EM < m) (c2 : (m == EM) = false) (c3 : (m == 0) = false) (w : World) : Calls Tryz.prog 32 #[.agg #[.int .u64 W, .int .u64 E, .int .u64 F, .int .u64 p, .bool s, .int .i64 ex, .int .u64 sg, .bool s, .int .i64 lx, .int .u64 ls], .int .u64 x] w (Rt (.tuple #[.int .i32 r, .int .u8 f]) w) := by
  go_enter Tryz.func32, Tryz.ntmps32
  go_upto_region 8 with (first | (go_at_call 90; (with_reducible refine (C90.out _).mono ?_); rintro _ _ ⟨rfl, x90, rfl⟩) | (go_at_call 85; (with_reducible refine (C85.out _).mono ?_); rintro _ _ ⟨rfl, x85, rfl⟩))
  refine wp_region_ext (by kernel_rfl) (by kernel_rfl) ?_
  repeat (go_big_quiet_step (first | (go_at_call 92; first | with_reducible exact Calls_ext (C92.out _) | with_reducible exact Calls_ext2 (C92.out _)) | (go_at_call 93; first | with_reducible exact Calls_ext (C93.out _) | with_reducible exact Calls_ext2 (C93.out _)) | (go_at_call 98; first | with_reducible exact Calls_ext (C98.out _) | with_reducible exact Calls_ext2 (C98.out _))))
  refine wpQuiet_nil ?_
  rintro w1 ⟨y1, rfl⟩
  go_wp2_with (fail)
  go_ret2
  exact ⟨by simp [hr], Gr.of (by repeat (first | exact Gr.refl _ | refine Gr.alloc ?_ _ | refine Gr.ext ?_ _ | refine Gr.drew ?_ | refine Gr.setCell ?_ (by simp) _))⟩
set_option maxRecDepth 100000 in
set_option maxHeartbeats 1000000 in
theorem w26e (W E F : Nat) (p PM MM EM q m : Int) (ty : TypeId) (ev : Value) (e1 : bits .and .u64 p PM = q) (e2 : bits .and .u64 q MM = m)
    (C20 : Hid (∀ w, Calls Tryz.prog 20 #[.agg #[.int .u64 W, .int .u64 E, .int .u64 F]] w (Rt (.int .u64 PM) w))) (C90 : Hid (∀ w, Calls Tryz.prog 90 #[.agg #[.int .u64 W, .int .u64 E, .int .u64 F]] w (Rt (.int .u64 MM) w))) (C85 : Hid (∀ w, Calls Tryz.prog 85 #[.agg #[.int .u64 W, .int .u64 E, .int .u64 F]] w (Rt (.int .u64 EM) w)))
    (hO : m = 0 ∨ ((m == 0) = false ∧ EM ≤ m)) (w : World) (hg : w.cell? ⟨0, 0, none⟩ = some (.iface ty ev)) (h0 : 0 < w.heap.size) : Calls Tryz.prog 26 #[.agg #[.int .u64 W, .int .u64 E, .int .u64 F], .int .u64 p] w (Rt (.tuple #[.agg #[.int .u64 0, .int .u64 0, .int .u64 0, .int .u64 0, .bool false, .int .i64 0, .int .u64 0, .bool false, .int .i64 0, .int .u64 0], .iface ty ev]) w) := by
  rcases hO with rfl | ⟨c1, c2⟩
  all_goals
    go_enter Tryz.func26, Tryz.ntmps26
    go_upto_region 4 with (first | (go_at_call 20; (with_reducible refine (C20.out _).mono ?_); rintro _ _ ⟨rfl, x20, rfl⟩) | (go_at_call 90; (with_reducible refine (C90.out _).mono ?_); rintro _ _ ⟨rfl, x90, rfl⟩) | (go_at_call 85; (with_reducible refine (C85.out _).mono ?_); rintro _ _ ⟨rfl, x85, rfl⟩))
    go_region
    all_goals
      go_wp2_with (fail)
      refine post_gen (fun Wx => Gr w.heap.size w Wx ∧ Wx.heap[w.heap.size + 1]? = some (.cells #[.int .u64 0, .int .u64 0, .int .u64 0, .int .u64 0, .bool false, .int .i64 0, .int .u64 0, .bool false, .int .i64 0, .int .u64 0] 59)) ⟨?_, ?_⟩ ?_
      · exact ((((((((((((((Gr.refl w).alloc _).alloc _).ext _).setCell (Nat.le_succ _) _).setCell (Nat.le_succ _) _).setCell (Nat.le_succ _) _).setCell (Nat.le_succ _) _).setCell (Nat.le_succ _) _).setCell (Nat.le_succ _) _).setCell (Nat.le_succ _) _).setCell (Nat.le_succ _) _).setCell (Nat.le_succ _) _).setCell (Nat.le_succ _) _).drew
      · have h0 : ((w.alloc (.cells #[.int .u64 W, .int .u64 E, .int .u64 F] 35)).alloc (.cells #[.int .u64 0, .int .u64 0, .int .u64 0, .int .u64 0, .bool false, .int .i64 0, .int .u64 0, .bool false, .int .i64 0, .int .u64 0] 59)).heap[w.heap.size + 1]? = some (.cells #[.int .u64 0, .int .u64 0, .int .u64 0, .int .u64 0, .bool false, .int .i64 0, .int .u64 0, .bool false, .int .i64 0, .int .u64 0] 59) := by
          have h0 := heap_new (w.alloc (.cells #[.int .u64 W, .int .u64 E, .int .u64 F] 35)) (.cells #[.int .u64 0, .int .u64 0, .int .u64 0, .int .u64 0, .bool false, .int .i64 0, .int .u64 0, .bool false, .int .i64 0, .int .u64 0] 59)
          rw [show (w.alloc (.cells #[.int .u64 W, .int .u64 E, .int .u64 F] 35)).heap.size = w.heap.size + 1 by simp] at h0
          exact h0
        have K := fun x => (blk_set (blk_set (blk_set (blk_set (blk_set (blk_set (blk_set (blk_set (blk_set (blk_set (blk_ext (x := x) h0) 0 (.int .u64 0)) 1 (.int .u64 0)) 2 (.int .u64 0)) 3 (.int .u64 0)) 4 (.bool false)) 5 (.int .i64 0)) 6 (.int .u64 0)) 7 (.bool false)) 8 (.int .i64 0)) 9 (.int .u64 0))
        have hd : ∀ X : World, X.drew.heap = X.heap := fun _ => rfl
        rw [hd]
        refine (K _).trans ?_
        simp
      rintro Wf ⟨hGf, hF⟩
      have f0 := cell_of_cells hF 0
      have f1 := cell_of_cells hF 1
      have f2 := cell_of_cells hF 2
      have f3 := cell_of_cells hF 3
      have f4 := cell_of_cells hF 4
      have f5 := cell_of_cells hF 5
      have f6 := cell_of_cells hF 6
      have f7 := cell_of_cells hF 7
      have f8 := cell_of_cells hF 8
      have f9 := cell_of_cells hF 9
      simp at f0 f1 f2 f3 f4 f5 f6 f7 f8 f9
      exact bodyPost_ret (v := .tuple #[.agg #[.int .u64 0, .int .u64 0, .int .u64 0, .int .u64 0, .bool false, .int .i64 0, .int .u64 0, .bool false, .int .i64 0, .int .u64 0], .iface ty ev]) (by simp [results, Tryz.results26, go_sem, f0, f1, f2, f3, f4, f5, f6, f7, f8, f9]) rfl ⟨rfl, hGf.of⟩
set_option maxRecDepth 100000 in
theorem w26 (W E F : Nat) (p PM MM EM q m ex sg lx ls : Int) (s : Bool) (e1 : bits .and .u64 p PM = q) (e2 : bits .and .u64 q MM = m)
    (C20 : Hid (∀ w, Calls Tryz.prog 20 #[.agg #[.int .u64 W, .int .u64 E, .int .u64 F]] w (Rt (.int .u64 PM) w))) (C90 : Hid (∀ w, Calls Tryz.prog 90 #[.agg #[.int .u64 W, .int .u64 E, .int .u64 F]] w (Rt (.int .u64 MM) w))) (C85 : Hid (∀ w, Calls Tryz.prog 85 #[.agg #[.int .u64 W, .int .u64 E, .int .u64 F]] w (Rt (.int .u64 EM) w)))
    (C92 : Hid (∀ w, Calls Tryz.prog 92 #[.agg #[.int .u64 W, .int .u64 E, .int .u64 F], .int .u64 q] w (Rt (.agg #[.bool s, .int .i64 ex, .int .u64 sg]) w)))
    (C93 : Hid (∀ w, Calls Tryz.prog 93 #[.agg #[.bool s, .int .i64 ex, .int .u64 sg]] w (Rt (.agg #[.bool s, .int .i64 lx, .int .u64 ls]) w)))
    (c1 : (m == 0) = false) (c2 : ¬ EM ≤ m) (w : World) : Calls Tryz.prog 26 #[.agg #[.int .u64 W, .int .u64 E, .int .u64 F], .int .u64 p] w (Rt (.tuple #[.agg #[.int .u64 W, .int .u64 E, .int .u64 F, .int .u64 q, .bool s, .int .i64 ex, .int .u64 sg, .bool s, .int .i64 lx, .int .u64 ls], .nilIface]) w) := by
  go_enter Tryz.func26, Tryz.ntmps26
  go_upto_region 6 with (first | (go_at_call 20; (with_reducible refine (C20.out _).mono ?_); rintro _ _ ⟨rfl, x20, rfl⟩) | (go_at_call 90; (with_reducible refine (C90.out _).mono ?_); rintro _ _ ⟨rfl, x90, rfl⟩) | (go_at_call 85; (with_reducible refine (C85.out _).mono ?_); rintro _ _ ⟨rfl, x85, rfl⟩) | (go_at_call 92; (with_reducible refine (C92.out _).mono ?_); rintro _ _ ⟨rfl, x92, rfl⟩))
  refine wp_region_ext_tail 6 (by kernel_rfl) (by kernel_rfl) (by kernel_rfl) ?_
  simp only [List.take_succ_cons, List.take_zero, List.drop_succ_cons, List.drop_zero]
  repeat (go_big_quiet_step ((go_at_call 93; first | with_reducible exact Calls_ext (C93.out _) | with_reducible exact Calls_ext2 (C93.out _))))
  refine wpQuiet_nil ?_
  rintro w4 ⟨x4, rfl⟩
  go_wp2_with (fail)
  refine post_gen (fun Wx => Gr w.heap.size w Wx ∧ Wx.heap[w.heap.size + 1]? = some (.cells #[.int .u64 W, .int .u64 E, .int .u64 F, .int .u64 q, .bool s, .int .i64 ex, .int .u64 sg, .bool s, .int .i64 lx, .int .u64 ls] 59)) ⟨?_, ?_⟩ ?_
  · exact ((((((((((((((((Gr.refl w).alloc _).alloc _).ext _).alloc _).ext _).setCell (Nat.le_succ _) _).setCell (Nat.le_succ _) _).setCell (Nat.le_succ _) _).setCell (Nat.le_succ _) _).setCell (Nat.le_succ _) _).setCell (Nat.le_succ _) _).setCell (Nat.le_succ _) _).setCell (Nat.le_succ _) _).setCell (Nat.le_succ _) _).setCell (Nat.le_succ _) _)
  · have h0 : ((w.alloc (.cells #[.int .u64 W, .int .u64 E, .int .u64 F] 35)).alloc (.cells #[.int .u64 0, .int .u64 0, .int .u64 0, .int .u64 0, .bool false, .int .i64 0, .int .u64 0, .bool false, .int .i64 0, .int .u64 0] 59)).heap[w.heap.size + 1]? = some (.cells #[.int .u64 0, .int .u64 0, .int .u64 0, .int .u64 0, .bool false, .int .i64 0, .int .u64 0, .bool false, .int .i64 0, .int .u64 0] 59) := by
      have h0 := heap_new (w.alloc (.cells #[.int .u64 W, .int .u64 E, .int .u64 F] 35)) (.cells #[.int .u64 0, .int .u64 0, .int .u64 0, .int .u64 0, .bool false, .int .i64 0, .int .u64 0, .bool false, .int .i64 0, .int .u64 0] 59)
      rw [show (w.alloc (.cells #[.int .u64 W, .int .u64 E, .int .u64 F] 35)).heap.size = w.heap.size + 1 by simp] at h0
      exact h0
    have K := fun x y => (blk_set (blk_set (blk_set (blk_set (blk_set (blk_set (blk_set (blk_set (blk_set (blk_set (blk_ext (x := y) (blk_alloc (o := .cells #[.bool s, .int .i64 ex, .int .u64 sg] 57) (blk_ext (x := x) h0))) 0 (.int .u64 W)) 1 (.int .u64 E)) 2 (.int .u64 F)) 3 (.int .u64 q)) 4 (.bool s)) 5 (.int .i64 ex)) 6 (.int .u64 sg)) 7 (.bool s)) 8 (.int .i64 lx)) 9 (.int .u64 ls))
    refine (K _ _).trans ?_
    simp
  rintro Wf ⟨hGf, hF⟩
  have f0 := cell_of_cells hF 0
  have f1 := cell_of_cells hF 1
  have f2 := cell_of_cells hF 2
  have f3 := cell_of_cells hF 3
  have f4 := cell_of_cells hF 4
  have f5 := cell_of_cells hF 5
  have f6 := cell_of_cells hF 6
  have f7 := cell_of_cells hF 7
  have f8 := cell_of_cells hF 8
  have f9 := cell_of_cells hF 9
  simp at f0 f1 f2 f3 f4 f5 f6 f7 f8 f9
  exact bodyPost_ret (v := .tuple #[.agg #[.int .u64 W, .int .u64 E, .int .u64 F, .int .u64 q, .bool s, .int .i64 ex, .int .u64 sg, .bool s, .int .i64 lx, .int .u64 ls], .nilIface]) (by simp [results, Tryz.results26, go_sem, f0, f1, f2, f3, f4, f5, f6, f7, f8, f9]) rfl ⟨rfl, hGf.of⟩
end Go.Proofs.Qxb6500680aGreatDoor
