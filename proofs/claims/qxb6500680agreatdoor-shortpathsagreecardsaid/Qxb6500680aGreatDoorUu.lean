import Derived.Test.Qxb6500680aGreatDoorUt
namespace Go.Proofs.Qxb6500680aGreatDoor
open Go.RowKit Go.BigFrame
set_option linter.unusedSimpArgs false
set_option linter.unusedSectionVars false
attribute [local go_sem] ext_cell_if ext_frozen_if alloc_cell_if alloc_frozen_if ext_size ext_ext calmOp calmAt
attribute [local go_sem] run_store_fn
set_option maxRecDepth 100000 in
set_option maxHeartbeats 10000000 in
theorem w34a (kk W md : Int) (ch : Bool) (a b n e f cl t1 t2 c1 c2 m1 m2 q1 q2 d1 d2 u1 u2 p0 p1 p2 p3 f0 f1 f2 f3 g1 g2 o : Int) (sg y1 y2 : Bool) (s : ByteArray) (SZ : Prop)
    (C121 : Hid (∀ w, Gt w → Calls Tryz.prog 121 #[.int .u64 a] w (Rt (.tuple #[.bool sg, .int .u32 e, .int .u64 f]) w)))
    (C67 : Hid (∀ w, Gt w → Calls Tryz.prog 67 #[.agg #[.int .u64 64, .int .u64 11, .int .u64 52], .int .u64 a] w (Rt (.agg #[.bool sg, .int .u32 e, .int .u64 f]) w)))
    (C122 : Hid (∀ w, Gt w → Calls Tryz.prog 122 #[.bool sg, .int .u32 e, .int .u64 f] w (Rt (.int .u64 a) w)))
    (C123 : Hid (∀ w, Gt w → Calls Tryz.prog 123 #[.int .u64 a] w (Rt (.int .u8 cl) w)))
    (C72 : Hid (∀ w, Gt w → Calls Tryz.prog 72 #[.agg #[.int .u64 64, .int .u64 11, .int .u64 52], .int .u64 a] w (Rt (.int .u8 cl) w)))
    (C124 : Hid (∀ w, Gt w → Calls Tryz.prog 124 #[.int .u64 a] w (Rt (.bool y1) w)))
    (C30 : Hid (∀ w, Gt w → Calls Tryz.prog 30 #[.agg #[.int .u64 64, .int .u64 11, .int .u64 52], .int .u64 a] w (Rt (.bool y1) w)))
    (C125 : Hid (∀ w, Gt w → Calls Tryz.prog 125 #[.int .u64 a] w (Rt (.bool y2) w)))
    (C78 : Hid (∀ w, Gt w → Calls Tryz.prog 78 #[.agg #[.int .u64 64, .int .u64 11, .int .u64 52], .int .u64 a] w (Rt (.bool y2) w)))
    (C126 : Hid (∀ w, Gt w → Calls Tryz.prog 126 #[.int .u64 a] w (Rt (.tuple #[.int .i32 t1, .int .u8 t2]) w)))
    (C59 : Hid (∀ w, Gt w → Calls Tryz.prog 59 #[.agg #[.int .u64 64, .int .u64 11, .int .u64 52], .int .u64 a] w (Rt (.tuple #[.int .i32 t1, .int .u8 t2]) w)))
    (C127 : Hid (∀ w, Gt w → Calls Tryz.prog 127 #[.int .i64 n] w (Rt (.tuple #[.int .u64 c1, .int .u8 c2]) w)))
    (C48 : Hid (∀ w, Gt w → Calls Tryz.prog 48 #[.agg #[.int .u64 64, .int .u64 11, .int .u64 52], .int .i64 n, .int .u8 0] w (Rt (.tuple #[.int .u64 c1, .int .u8 c2]) w)))
    (C128 : Hid (∀ w, Gt w → Calls Tryz.prog 128 #[.int .i64 n, .int .u64 a] w (Rt (.tuple #[.int .u64 m1, .int .u8 m2]) w)))
    (C35 : Hid (∀ w, Gt w → Calls Tryz.prog 35 #[.agg #[.int .u64 64, .int .u64 11, .int .u64 52], .int .i64 n, .int .u64 a, .int .u8 0] w (Rt (.tuple #[.int .u64 m1, .int .u8 m2]) w)))
    (C129 : Hid (∀ w, Gt w → Calls Tryz.prog 129 #[.int .u64 a, .int .u64 b] w (Rt (.tuple #[.int .i32 q1, .int .u8 q2]) w)))
    (C36 : Hid (∀ w, Gt w → Calls Tryz.prog 36 #[.agg #[.int .u64 64, .int .u64 11, .int .u64 52], .int .u64 a, .int .u64 b] w (Rt (.tuple #[.int .i32 q1, .int .u8 q2]) w)))
    (C130 : Hid (∀ w, Gt w → Calls Tryz.prog 130 #[.int .u64 a, .int .u64 b] w (Rt (.tuple #[.int .i64 d1, .int .u8 d2]) w)))
    (C109 : Hid (∀ w, Gt w → Calls Tryz.prog 109 #[.agg #[.int .u64 64, .int .u64 11, .int .u64 52], .int .u64 a, .int .u64 b] w (Rt (.tuple #[.int .i64 d1, .int .u8 d2]) w)))
    (C131 : Hid (∀ w, Gt w → Calls Tryz.prog 131 #[.int .u64 a, .int .i64 n] w (Rt (.tuple #[.int .u64 u1, .int .u8 u2]) w)))
    (C111 : Hid (∀ w, Gt w → Calls Tryz.prog 111 #[.agg #[.int .u64 64, .int .u64 11, .int .u64 52], .int .u64 a, .int .i64 n] w (Rt (.tuple #[.int .u64 u1, .int .u8 u2]) w)))
    (C132 : Hid (∀ w, Gt w → Calls Tryz.prog 132 #[.int .u64 a, .int .u64 b] w (Rt (.tuple #[.int .u64 p0, .int .u8 f0]) w)))
    (C133 : Hid (∀ w, Gt w → Calls Tryz.prog 133 #[.int .u64 a, .int .u64 b] w (Rt (.tuple #[.int .u64 p1, .int .u8 f1]) w)))
    (C134 : Hid (∀ w, Gt w → Calls Tryz.prog 134 #[.int .u64 a, .int .u64 b] w (Rt (.tuple #[.int .u64 p2, .int .u8 f2]) w)))
    (C135 : Hid (∀ w, Gt w → Calls Tryz.prog 135 #[.int .u64 a, .int .u64 b] w (Rt (.tuple #[.int .u64 p3, .int .u8 f3]) w)))
    (C44 : Hid (∀ w, Gt w → Calls Tryz.prog 44 #[.agg #[.int .u64 64, .int .u64 11, .int .u64 52], .int .u64 a, .int .u64 b, .int .u8 0] w (Rt (.tuple #[.int .u64 p0, .int .u8 f0]) w)))
    (C45 : Hid (∀ w, Gt w → Calls Tryz.prog 45 #[.agg #[.int .u64 64, .int .u64 11, .int .u64 52], .int .u64 a, .int .u64 b, .int .u8 0] w (Rt (.tuple #[.int .u64 p1, .int .u8 f1]) w)))
    (C46 : Hid (∀ w, Gt w → Calls Tryz.prog 46 #[.agg #[.int .u64 64, .int .u64 11, .int .u64 52], .int .u64 a, .int .u64 b, .int .u8 0] w (Rt (.tuple #[.int .u64 p2, .int .u8 f2]) w)))
    (C47 : Hid (∀ w, Gt w → Calls Tryz.prog 47 #[.agg #[.int .u64 64, .int .u64 11, .int .u64 52], .int .u64 a, .int .u64 b, .int .u8 0] w (Rt (.tuple #[.int .u64 p3, .int .u8 f3]) w)))
    (C136 : Hid (∀ w, Gt w → Calls Tryz.prog 136 #[.int .u64 a] w (Rt (.int .u64 g1) w)))
    (C53 : Hid (∀ w, Gt w → Calls Tryz.prog 53 #[.agg #[.int .u64 64, .int .u64 11, .int .u64 52], .int .u64 a] w (Rt (.int .u64 g1) w)))
    (C137 : Hid (∀ w, Gt w → Calls Tryz.prog 137 #[.int .u64 a] w (Rt (.int .u64 g2) w)))
    (C56 : Hid (∀ w, Gt w → Calls Tryz.prog 56 #[.agg #[.int .u64 64, .int .u64 11, .int .u64 52], .int .u64 a] w (Rt (.int .u64 g2) w)))
    (C138 : Hid (∀ w, Gt w → Calls Tryz.prog 138 #[.int .u64 a, .int .u64 b] w (Rt (.int .i8 o) w)))
    (C57 : Hid (∀ w, Gt w → Calls Tryz.prog 57 #[.agg #[.int .u64 64, .int .u64 11, .int .u64 52], .int .u64 a, .int .u64 b] w (Rt (.int .i8 o) w)))
    (C139 : Hid (∀ w, Gt w → Calls Tryz.prog 139 #[.int .u64 a] w (Rt (.string s) w)))
    (C16 : Hid (∀ w, Gt w → Calls Tryz.prog 16 #[.agg #[.int .u64 64, .int .u64 11, .int .u64 52], .int .u64 a] w (Rt (.string s) w)))
    (D139 : Hid (∀ w, Gt w → Calls Tryz.prog 139 #[.int .u64 a] w (fun e w' => Rt (.string s) w e w' ∧ SZ)))
    (C140 : Hid (SZ → ∀ w, Gt w → Calls Tryz.prog 140 #[.string s] w (Rt (.tuple #[.int .u64 a, .nilIface]) w)))
    (w : World) (hg : Gt w) : Calls Tryz.prog 34 #[.agg #[.int .u8 kk, .int .i64 W, .int .u8 md, .bool ch, .int .u64 a, .int .u64 b, .int .i64 n]] w (Rt (.bool true) w) := by
  obtain ⟨C, hC⟩ : ∃ C, w.heap.size = C := ⟨_, rfl⟩
  have hlt := hg.1.lt
  obtain ⟨-, -, -, a0, a1, a2⟩ := hg.1
  go_enter Tryz.func34, Tryz.ntmps34
  go_upto_region 2 with (fail)
  refine wp_region_ext (by kernel_rfl) (by kernel_rfl) ?_
  repeat (go_big_quiet_step (fail))
  refine wpQuiet_nil ?_
  rintro w1 ⟨y1, rfl⟩
  go_upto_region 3 with (fail)
  refine wp_gen (fun W1 => W1.heap[C + 1]? = some (.cells #[.int .u64 64, .int .u64 11, .int .u64 52] 35) ∧ Gr w.heap.size w W1) ⟨?_, ?_⟩ ?_
  · have h0 := heap_new (w.alloc (.cells #[.int .u8 kk, .int .i64 W, .int .u8 md, .bool ch, .int .u64 a, .int .u64 b, .int .i64 n] 29)) (.cells #[.int .u64 64, .int .u64 11, .int .u64 52] 35)
    rw [show (w.alloc (.cells #[.int .u8 kk, .int .i64 W, .int .u8 md, .bool ch, .int .u64 a, .int .u64 b, .int .i64 n] 29)).heap.size = C + 1 by simp [hC]] at h0
    exact blk_ext h0
  · exact (((Gr.refl w).alloc _).alloc _).ext _
  rintro W1 ⟨h1, g1⟩
  have hb1 : w.heap.size ≤ C + 1 := by omega
  generalize C + 1 = fb at *
  clear hC
  have l1 := lt_of_cells h1
  have i0 : W1.cell? ⟨fb, 0, none⟩ = some (.int .u64 64) := cell_of_cells h1 0
  have i1 : W1.cell? ⟨fb, 1, none⟩ = some (.int .u64 11) := cell_of_cells h1 1
  have i2 : W1.cell? ⟨fb, 2, none⟩ = some (.int .u64 52) := cell_of_cells h1 2
  have G : Hid (Gt W1) := hidden (hg.gr g1)
  have H1 := hidden h1
  have G1 := hidden g1
  clear h1 g1 a0 a1 a2 hlt
  go_upto_region 7 with (first | (go_at_call 121; (with_reducible refine (C121.out _ G.out).mono ?_); rintro _ _ ⟨rfl, x121, rfl⟩) | (go_at_call 67; (with_reducible refine (C67.out _ (gt_ext G.out _)).mono ?_); rintro _ _ ⟨rfl, x67, rfl⟩))
  refine wp_gen (fun X => Gr W1.heap.size W1 X) (by repeat (first | exact Gr.refl _ | refine Gr.setCell ?_ (by simp) _ | refine Gr.alloc ?_ _ | refine Gr.ext ?_ _ | refine Gr.drew ?_)) ?_
  rintro W2 gg
  replace H1 := hidden ((gg.1.block fb l1).trans H1.out)
  replace G1 := hidden (G1.out.step gg G1.out.2)
  replace G := hidden (G.out.gr gg)
  replace l1 := lt_of_cells H1.out
  replace i0 : W2.cell? ⟨fb, 0, none⟩ = some (.int .u64 64) := cell_of_cells H1.out 0
  replace i1 : W2.cell? ⟨fb, 1, none⟩ = some (.int .u64 11) := cell_of_cells H1.out 1
  replace i2 : W2.cell? ⟨fb, 2, none⟩ = some (.int .u64 52) := cell_of_cells H1.out 2
  clear gg
  refine wp_region_ext (by kernel_rfl) (by kernel_rfl) ?_
  repeat (go_big_quiet_step (first | (go_at_call 122; first | with_reducible exact Calls_ext (C122.out _ (gt_ext G.out _)) | with_reducible exact Calls_ext2 (C122.out _ (gt_ext G.out _))) | (go_at_call 123; first | with_reducible exact Calls_ext (C123.out _ (gt_ext G.out _)) | with_reducible exact Calls_ext2 (C123.out _ (gt_ext G.out _))) | (go_at_call 72; first | with_reducible exact Calls_ext (C72.out _ (gt_ext G.out _)) | with_reducible exact Calls_ext2 (C72.out _ (gt_ext G.out _)))))
  refine wpQuiet_nil ?_
  rintro w3 ⟨z1, rfl⟩
  go_upto_region 9 with (fail)
  refine wp_region_ext (by kernel_rfl) (by kernel_rfl) ?_
  repeat (go_big_quiet_step (first | (go_at_call 124; first | with_reducible exact Calls_ext (C124.out _ (gt_ext G.out _)) | with_reducible exact Calls_ext2 (C124.out _ (gt_ext G.out _))) | (go_at_call 30; first | with_reducible exact Calls_ext (C30.out _ (gt_ext G.out _)) | with_reducible exact Calls_ext2 (C30.out _ (gt_ext G.out _))) | (go_at_call 125; first | with_reducible exact Calls_ext (C125.out _ (gt_ext G.out _)) | with_reducible exact Calls_ext2 (C125.out _ (gt_ext G.out _))) | (go_at_call 78; first | with_reducible exact Calls_ext (C78.out _ (gt_ext G.out _)) | with_reducible exact Calls_ext2 (C78.out _ (gt_ext G.out _)))))
  refine wpQuiet_nil ?_
  rintro w3 ⟨z2, rfl⟩
  go_upto_region 29 with (first | (go_at_call 126; (with_reducible refine (C126.out _ (gt_ext G.out _)).mono ?_); rintro _ _ ⟨rfl, x126, rfl⟩) | (go_at_call 59; (with_reducible refine (C59.out _ (gt_ext G.out _)).mono ?_); rintro _ _ ⟨rfl, x59, rfl⟩) | (go_at_call 127; (with_reducible refine (C127.out _ (gt_ext G.out _)).mono ?_); rintro _ _ ⟨rfl, x127, rfl⟩) | (go_at_call 48; (with_reducible refine (C48.out _ (gt_ext G.out _)).mono ?_); rintro _ _ ⟨rfl, x48, rfl⟩) | (go_at_call 128; (with_reducible refine (C128.out _ (gt_ext G.out _)).mono ?_); rintro _ _ ⟨rfl, x128, rfl⟩) | (go_at_call 35; (with_reducible refine (C35.out _ (gt_ext G.out _)).mono ?_); rintro _ _ ⟨rfl, x35, rfl⟩) | (go_at_call 129; (with_reducible refine (C129.out _ (gt_ext G.out _)).mono ?_); rintro _ _ ⟨rfl, x129, rfl⟩) | (go_at_call 36; (with_reducible refine (C36.out _ (gt_ext G.out _)).mono ?_); rintro _ _ ⟨rfl, x36, rfl⟩) | (go_at_call 130; (with_reducible refine (C130.out _ (gt_ext G.out _)).mono ?_); rintro _ _ ⟨rfl, x130, rfl⟩) | (go_at_call 109; (with_reducible refine (C109.out _ (gt_ext G.out _)).mono ?_); rintro _ _ ⟨rfl, x109, rfl⟩) | (go_at_call 131; (with_reducible refine (C131.out _ (gt_ext G.out _)).mono ?_); rintro _ _ ⟨rfl, x131, rfl⟩) | (go_at_call 111; (with_reducible refine (C111.out _ (gt_ext G.out _)).mono ?_); rintro _ _ ⟨rfl, x111, rfl⟩))
  refine wp_gen (fun X => Gr W2.heap.size W2 X) (by repeat (first | exact Gr.refl _ | refine Gr.setCell ?_ (by simp) _ | refine Gr.alloc ?_ _ | refine Gr.ext ?_ _ | refine Gr.drew ?_)) ?_
  rintro W3 gg
  replace H1 := hidden ((gg.1.block fb l1).trans H1.out)
  replace G1 := hidden (G1.out.step gg G1.out.2)
  replace G := hidden (G.out.gr gg)
  replace l1 := lt_of_cells H1.out
  replace i0 : W3.cell? ⟨fb, 0, none⟩ = some (.int .u64 64) := cell_of_cells H1.out 0
  replace i1 : W3.cell? ⟨fb, 1, none⟩ = some (.int .u64 11) := cell_of_cells H1.out 1
  replace i2 : W3.cell? ⟨fb, 2, none⟩ = some (.int .u64 52) := cell_of_cells H1.out 2
  clear gg
  go_wp2_with (fail)
  obtain ⟨sb, hsb⟩ : ∃ sb, W3.heap.size = sb := ⟨_, rfl⟩
  refine wp_gen (fun X => X.heap[sb]? = some (.cells #[.func (.func 132) #[] #[], .func (.func 44) #[.agg #[.int .u64 64, .int .u64 11, .int .u64 52]] #[], .func (.func 133) #[] #[], .func (.func 45) #[.agg #[.int .u64 64, .int .u64 11, .int .u64 52]] #[], .func (.func 134) #[] #[], .func (.func 46) #[.agg #[.int .u64 64, .int .u64 11, .int .u64 52]] #[], .func (.func 135) #[] #[], .func (.func 47) #[.agg #[.int .u64 64, .int .u64 11, .int .u64 52]] #[]] 172) ∧ Gr W3.heap.size W3 X) ⟨by rw [← hsb]; exact heap_new _ _, (Gr.refl W3).alloc _⟩ ?_
  rintro W4 ⟨s1, gg⟩
  simp only [hsb]
  replace H1 := hidden ((gg.1.block fb l1).trans H1.out)
  replace G1 := hidden (G1.out.step gg G1.out.2)
  replace G := hidden (G.out.gr gg)
  have S1 := hidden s1
  clear s1 gg hsb l1 i0 i1 i2
  clear C121 C67 C122 C123 C72 C124 C30 C125 C78 C126 C59 C127 C48 C128 C35 C129 C36 C130 C109 C131 C111
  go_loopw [36, 37, 38, 39, 40, 245] (fun _ _ _ _ _ s256 wi => ∃ j : Nat, s256 = .int .i64 j ∧ j ≤ 4 ∧ Gr W4.heap.size W4 wi) (fun _ _ _ _ _ s256 _ => (4 - intOf s256).toNat)
  case atStart => exact ⟨0, rfl, by omega, Gr.refl W4⟩
  case round =>
    obtain ⟨j, rfl, hj, gj⟩ := hrel
    have GJ := hidden gj
    have s1 := (gj.1.block sb (lt_of_cells S1.out)).trans S1.out
    have h1 := (gj.1.block fb (lt_of_cells H1.out)).trans H1.out
    have GW := hidden (G.out.gr gj)
    clear gj
    rcases j with _ | _ | _ | _ | _ | j
    · have c0 : wr.cell? ⟨sb, 0, none⟩ = some (.func (.func 132) #[] #[]) := cell_of_cells s1 0
      have c1 : wr.cell? ⟨sb, 1, none⟩ = some (.func (.func 44) #[.agg #[.int .u64 64, .int .u64 11, .int .u64 52]] #[]) := cell_of_cells s1 1
      have ls := lt_of_cells s1
      clear s1 h1
      go_wp2_with (first | (go_at_call 132; (with_reducible refine (C132.out _ (GW.out.gr (by repeat (first | exact Gr.refl _ | refine Gr.setCell ?_ (by simp) _ | refine Gr.alloc ?_ _ | refine Gr.ext ?_ _)))).mono ?_); rintro _ _ ⟨rfl, x132, rfl⟩) | (go_at_call 44; (with_reducible refine (C44.out _ (GW.out.gr (by repeat (first | exact Gr.refl _ | refine Gr.setCell ?_ (by simp) _ | refine Gr.alloc ?_ _ | refine Gr.ext ?_ _)))).mono ?_); rintro _ _ ⟨rfl, x44, rfl⟩))
      exact ⟨⟨1, rfl, by omega, by (repeat (first | exact GJ.out | refine Gr.setCell ?_ (by simp) _ | refine Gr.ext ?_ _ | refine Gr.alloc ?_ _))⟩, by simp [intOf]⟩
    · have c0 : wr.cell? ⟨sb, 2, none⟩ = some (.func (.func 133) #[] #[]) := cell_of_cells s1 2
      have c1 : wr.cell? ⟨sb, 3, none⟩ = some (.func (.func 45) #[.agg #[.int .u64 64, .int .u64 11, .int .u64 52]] #[]) := cell_of_cells s1 3
      have ls := lt_of_cells s1
      clear s1 h1
      go_wp2_with (first | (go_at_call 133; (with_reducible refine (C133.out _ (GW.out.gr (by repeat (first | exact Gr.refl _ | refine Gr.setCell ?_ (by simp) _ | refine Gr.alloc ?_ _ | refine Gr.ext ?_ _)))).mono ?_); rintro _ _ ⟨rfl, x133, rfl⟩) | (go_at_call 45; (with_reducible refine (C45.out _ (GW.out.gr (by repeat (first | exact Gr.refl _ | refine Gr.setCell ?_ (by simp) _ | refine Gr.alloc ?_ _ | refine Gr.ext ?_ _)))).mono ?_); rintro _ _ ⟨rfl, x45, rfl⟩))
      exact ⟨⟨2, rfl, by omega, by (repeat (first | exact GJ.out | refine Gr.setCell ?_ (by simp) _ | refine Gr.ext ?_ _ | refine Gr.alloc ?_ _))⟩, by simp [intOf]⟩
    · have c0 : wr.cell? ⟨sb, 4, none⟩ = some (.func (.func 134) #[] #[]) := cell_of_cells s1 4
      have c1 : wr.cell? ⟨sb, 5, none⟩ = some (.func (.func 46) #[.agg #[.int .u64 64, .int .u64 11, .int .u64 52]] #[]) := cell_of_cells s1 5
      have ls := lt_of_cells s1
      clear s1 h1
      go_wp2_with (first | (go_at_call 134; (with_reducible refine (C134.out _ (GW.out.gr (by repeat (first | exact Gr.refl _ | refine Gr.setCell ?_ (by simp) _ | refine Gr.alloc ?_ _ | refine Gr.ext ?_ _)))).mono ?_); rintro _ _ ⟨rfl, x134, rfl⟩) | (go_at_call 46; (with_reducible refine (C46.out _ (GW.out.gr (by repeat (first | exact Gr.refl _ | refine Gr.setCell ?_ (by simp) _ | refine Gr.alloc ?_ _ | refine Gr.ext ?_ _)))).mono ?_); rintro _ _ ⟨rfl, x46, rfl⟩))
      exact ⟨⟨3, rfl, by omega, by (repeat (first | exact GJ.out | refine Gr.setCell ?_ (by simp) _ | refine Gr.ext ?_ _ | refine Gr.alloc ?_ _))⟩, by simp [intOf]⟩
    · have c0 : wr.cell? ⟨sb, 6, none⟩ = some (.func (.func 135) #[] #[]) := cell_of_cells s1 6
      have c1 : wr.cell? ⟨sb, 7, none⟩ = some (.func (.func 47) #[.agg #[.int .u64 64, .int .u64 11, .int .u64 52]] #[]) := cell_of_cells s1 7
      have ls := lt_of_cells s1
      clear s1 h1
      go_wp2_with (first | (go_at_call 135; (with_reducible refine (C135.out _ (GW.out.gr (by repeat (first | exact Gr.refl _ | refine Gr.setCell ?_ (by simp) _ | refine Gr.alloc ?_ _ | refine Gr.ext ?_ _)))).mono ?_); rintro _ _ ⟨rfl, x135, rfl⟩) | (go_at_call 47; (with_reducible refine (C47.out _ (GW.out.gr (by repeat (first | exact Gr.refl _ | refine Gr.setCell ?_ (by simp) _ | refine Gr.alloc ?_ _ | refine Gr.ext ?_ _)))).mono ?_); rintro _ _ ⟨rfl, x47, rfl⟩))
      exact ⟨⟨4, rfl, by omega, by (repeat (first | exact GJ.out | refine Gr.setCell ?_ (by simp) _ | refine Gr.ext ?_ _ | refine Gr.alloc ?_ _))⟩, by simp [intOf]⟩
    · clear s1
      have l1 := lt_of_cells h1
      have i0 : wr.cell? ⟨fb, 0, none⟩ = some (.int .u64 64) := cell_of_cells h1 0
      have i1 : wr.cell? ⟨fb, 1, none⟩ = some (.int .u64 11) := cell_of_cells h1 1
      have i2 : wr.cell? ⟨fb, 2, none⟩ = some (.int .u64 52) := cell_of_cells h1 2
      have G := hidden GW.out
      have GA := hidden (G1.out.step GJ.out G1.out.2)
      clear h1 GJ GW S1 H1 G1
      go_upto_region 37 with (fail)
      refine wp_region_ext (by kernel_rfl) (by kernel_rfl) ?_
      repeat (go_big_quiet_step (first | (go_at_call 136; first | with_reducible exact Calls_ext (C136.out _ (gt_ext G.out _)) | with_reducible exact Calls_ext2 (C136.out _ (gt_ext G.out _))) | (go_at_call 53; first | with_reducible exact Calls_ext (C53.out _ (gt_ext G.out _)) | with_reducible exact Calls_ext2 (C53.out _ (gt_ext G.out _))) | (go_at_call 137; first | with_reducible exact Calls_ext (C137.out _ (gt_ext G.out _)) | with_reducible exact Calls_ext2 (C137.out _ (gt_ext G.out _))) | (go_at_call 56; first | with_reducible exact Calls_ext (C56.out _ (gt_ext G.out _)) | with_reducible exact Calls_ext2 (C56.out _ (gt_ext G.out _)))))
      refine wpQuiet_nil ?_
      rintro w5 ⟨z5, rfl⟩
      go_upto_region 39 with (fail)
      refine wp_region_ext (by kernel_rfl) (by kernel_rfl) ?_
      repeat (go_big_quiet_step (first | (go_at_call 138; first | with_reducible exact Calls_ext (C138.out _ (gt_ext G.out _)) | with_reducible exact Calls_ext2 (C138.out _ (gt_ext G.out _))) | (go_at_call 57; first | with_reducible exact Calls_ext (C57.out _ (gt_ext G.out _)) | with_reducible exact Calls_ext2 (C57.out _ (gt_ext G.out _))) | (go_at_call 139; first | with_reducible exact Calls_ext (C139.out _ (gt_ext G.out _)) | with_reducible exact Calls_ext2 (C139.out _ (gt_ext G.out _))) | (go_at_call 16; first | with_reducible exact Calls_ext (C16.out _ (gt_ext G.out _)) | with_reducible exact Calls_ext2 (C16.out _ (gt_ext G.out _)))))
      refine wpQuiet_nil ?_
      rintro w6 ⟨z6, rfl⟩
      go_wp2_with (first | (go_at_call 139; (with_reducible refine (D139.out _ (gt_ext G.out _)).mono ?_); rintro _ _ ⟨⟨rfl, x139, rfl⟩, hsz⟩) | (go_at_call 140; (with_reducible refine (C140.out hsz _ (gt_ext G.out _)).mono ?_); rintro _ _ ⟨rfl, x140, rfl⟩))
      go_ret
      exact ⟨by simp, Gr.of (GA.out.ext _)⟩
    · omega
end Go.Proofs.Qxb6500680aGreatDoor
