import Derived.Test.Qxb6500680aGreatDoorUs
namespace Go.Proofs.Qxb6500680aGreatDoor
open Go.RowKit Go.BigFrame
set_option linter.unusedSimpArgs false
set_option linter.unusedSectionVars false
attribute [local go_sem] ext_cell_if ext_frozen_if alloc_cell_if alloc_frozen_if ext_size ext_ext calmOp calmAt
theorem run_store_fn (P : Program) (w : World) (a : Addr) (m : Mode) (f : Fn) (x y : Array Value) : (store a (.func f x y) m).run P w = stored P w a (.func f x y) m := run_store P w a _ m rfl
attribute [local go_sem] run_store_fn
/-- The formats and the table of powers lie in the world. -/
def Gt (w : World) : Prop := Glob w ∧ Tab w
theorem Gt.gr {w w' : World} (h : Gt w) (g : Gr w.heap.size w w') : Gt w' := ⟨h.1.gr g, ((Lib.tabBelow_of_tabIs h.2).on g.1).here⟩
theorem gt_ext {w : World} (h : Gt w) (x : Nat → Array Obj × Nat) : Gt (ext w x) := h.gr ((Gr.refl w).ext x)
set_option maxRecDepth 100000 in
set_option maxHeartbeats 10000000 in
theorem w33a (kk W md : Int) (ch : Bool) (A B N a b n e f cl t1 t2 c1 c2 m1 m2 q1 q2 d1 d2 u1 u2 p0 p1 p2 p3 f0 f1 f2 f3 g1 g2 o : Int) (sg y1 y2 : Bool) (s : ByteArray) (SZ : Prop)
    (hA : IntKind.u32.wrap A = a) (hB : IntKind.u32.wrap B = b) (hN : IntKind.i32.wrap N = n)
    (ba : 0 ≤ a ∧ a < 4294967296) (bb : 0 ≤ b ∧ b < 4294967296) (bn : -2147483648 ≤ n ∧ n ≤ 2147483647) (bf : 0 ≤ f ∧ f < 4294967296) (bc : 0 ≤ c1 ∧ c1 < 4294967296) (bm : 0 ≤ m1 ∧ m1 < 4294967296) (bd : -2147483648 ≤ d1 ∧ d1 ≤ 2147483647) (bu : 0 ≤ u1 ∧ u1 < 4294967296)
    (bp0 : 0 ≤ p0 ∧ p0 < 4294967296) (bp1 : 0 ≤ p1 ∧ p1 < 4294967296) (bp2 : 0 ≤ p2 ∧ p2 < 4294967296) (bp3 : 0 ≤ p3 ∧ p3 < 4294967296) (bg1 : 0 ≤ g1 ∧ g1 < 4294967296) (bg2 : 0 ≤ g2 ∧ g2 < 4294967296)
    (C99 : Hid (∀ w, Gt w → Calls Tryz.prog 99 #[.int .u32 a] w (Rt (.tuple #[.bool sg, .int .u32 e, .int .u32 f]) w)))
    (C67 : Hid (∀ w, Gt w → Calls Tryz.prog 67 #[.agg #[.int .u64 32, .int .u64 8, .int .u64 23], .int .u64 a] w (Rt (.agg #[.bool sg, .int .u32 e, .int .u64 f]) w)))
    (C100 : Hid (∀ w, Gt w → Calls Tryz.prog 100 #[.bool sg, .int .u32 e, .int .u32 f] w (Rt (.int .u32 a) w)))
    (C101 : Hid (∀ w, Gt w → Calls Tryz.prog 101 #[.int .u32 a] w (Rt (.int .u8 cl) w)))
    (C72 : Hid (∀ w, Gt w → Calls Tryz.prog 72 #[.agg #[.int .u64 32, .int .u64 8, .int .u64 23], .int .u64 a] w (Rt (.int .u8 cl) w)))
    (C102 : Hid (∀ w, Gt w → Calls Tryz.prog 102 #[.int .u32 a] w (Rt (.bool y1) w)))
    (C30 : Hid (∀ w, Gt w → Calls Tryz.prog 30 #[.agg #[.int .u64 32, .int .u64 8, .int .u64 23], .int .u64 a] w (Rt (.bool y1) w)))
    (C103 : Hid (∀ w, Gt w → Calls Tryz.prog 103 #[.int .u32 a] w (Rt (.bool y2) w)))
    (C78 : Hid (∀ w, Gt w → Calls Tryz.prog 78 #[.agg #[.int .u64 32, .int .u64 8, .int .u64 23], .int .u64 a] w (Rt (.bool y2) w)))
    (C104 : Hid (∀ w, Gt w → Calls Tryz.prog 104 #[.int .u32 a] w (Rt (.tuple #[.int .i32 t1, .int .u8 t2]) w)))
    (C59 : Hid (∀ w, Gt w → Calls Tryz.prog 59 #[.agg #[.int .u64 32, .int .u64 8, .int .u64 23], .int .u64 a] w (Rt (.tuple #[.int .i32 t1, .int .u8 t2]) w)))
    (C105 : Hid (∀ w, Gt w → Calls Tryz.prog 105 #[.int .i32 n] w (Rt (.tuple #[.int .u32 c1, .int .u8 c2]) w)))
    (C48 : Hid (∀ w, Gt w → Calls Tryz.prog 48 #[.agg #[.int .u64 32, .int .u64 8, .int .u64 23], .int .i64 n, .int .u8 0] w (Rt (.tuple #[.int .u64 c1, .int .u8 c2]) w)))
    (C106 : Hid (∀ w, Gt w → Calls Tryz.prog 106 #[.int .i32 n, .int .u32 a] w (Rt (.tuple #[.int .u32 m1, .int .u8 m2]) w)))
    (C35 : Hid (∀ w, Gt w → Calls Tryz.prog 35 #[.agg #[.int .u64 32, .int .u64 8, .int .u64 23], .int .i64 n, .int .u64 a, .int .u8 0] w (Rt (.tuple #[.int .u64 m1, .int .u8 m2]) w)))
    (C107 : Hid (∀ w, Gt w → Calls Tryz.prog 107 #[.int .u32 a, .int .u32 b] w (Rt (.tuple #[.int .i32 q1, .int .u8 q2]) w)))
    (C36 : Hid (∀ w, Gt w → Calls Tryz.prog 36 #[.agg #[.int .u64 32, .int .u64 8, .int .u64 23], .int .u64 a, .int .u64 b] w (Rt (.tuple #[.int .i32 q1, .int .u8 q2]) w)))
    (C108 : Hid (∀ w, Gt w → Calls Tryz.prog 108 #[.int .u32 a, .int .u32 b] w (Rt (.tuple #[.int .i32 d1, .int .u8 d2]) w)))
    (C109 : Hid (∀ w, Gt w → Calls Tryz.prog 109 #[.agg #[.int .u64 32, .int .u64 8, .int .u64 23], .int .u64 a, .int .u64 b] w (Rt (.tuple #[.int .i64 d1, .int .u8 d2]) w)))
    (C110 : Hid (∀ w, Gt w → Calls Tryz.prog 110 #[.int .u32 a, .int .i32 n] w (Rt (.tuple #[.int .u32 u1, .int .u8 u2]) w)))
    (C111 : Hid (∀ w, Gt w → Calls Tryz.prog 111 #[.agg #[.int .u64 32, .int .u64 8, .int .u64 23], .int .u64 a, .int .i64 n] w (Rt (.tuple #[.int .u64 u1, .int .u8 u2]) w)))
    (C112 : Hid (∀ w, Gt w → Calls Tryz.prog 112 #[.int .u32 a, .int .u32 b] w (Rt (.tuple #[.int .u32 p0, .int .u8 f0]) w)))
    (C113 : Hid (∀ w, Gt w → Calls Tryz.prog 113 #[.int .u32 a, .int .u32 b] w (Rt (.tuple #[.int .u32 p1, .int .u8 f1]) w)))
    (C114 : Hid (∀ w, Gt w → Calls Tryz.prog 114 #[.int .u32 a, .int .u32 b] w (Rt (.tuple #[.int .u32 p2, .int .u8 f2]) w)))
    (C115 : Hid (∀ w, Gt w → Calls Tryz.prog 115 #[.int .u32 a, .int .u32 b] w (Rt (.tuple #[.int .u32 p3, .int .u8 f3]) w)))
    (C44 : Hid (∀ w, Gt w → Calls Tryz.prog 44 #[.agg #[.int .u64 32, .int .u64 8, .int .u64 23], .int .u64 a, .int .u64 b, .int .u8 0] w (Rt (.tuple #[.int .u64 p0, .int .u8 f0]) w)))
    (C45 : Hid (∀ w, Gt w → Calls Tryz.prog 45 #[.agg #[.int .u64 32, .int .u64 8, .int .u64 23], .int .u64 a, .int .u64 b, .int .u8 0] w (Rt (.tuple #[.int .u64 p1, .int .u8 f1]) w)))
    (C46 : Hid (∀ w, Gt w → Calls Tryz.prog 46 #[.agg #[.int .u64 32, .int .u64 8, .int .u64 23], .int .u64 a, .int .u64 b, .int .u8 0] w (Rt (.tuple #[.int .u64 p2, .int .u8 f2]) w)))
    (C47 : Hid (∀ w, Gt w → Calls Tryz.prog 47 #[.agg #[.int .u64 32, .int .u64 8, .int .u64 23], .int .u64 a, .int .u64 b, .int .u8 0] w (Rt (.tuple #[.int .u64 p3, .int .u8 f3]) w)))
    (C116 : Hid (∀ w, Gt w → Calls Tryz.prog 116 #[.int .u32 a] w (Rt (.int .u32 g1) w)))
    (C53 : Hid (∀ w, Gt w → Calls Tryz.prog 53 #[.agg #[.int .u64 32, .int .u64 8, .int .u64 23], .int .u64 a] w (Rt (.int .u64 g1) w)))
    (C117 : Hid (∀ w, Gt w → Calls Tryz.prog 117 #[.int .u32 a] w (Rt (.int .u32 g2) w)))
    (C56 : Hid (∀ w, Gt w → Calls Tryz.prog 56 #[.agg #[.int .u64 32, .int .u64 8, .int .u64 23], .int .u64 a] w (Rt (.int .u64 g2) w)))
    (C118 : Hid (∀ w, Gt w → Calls Tryz.prog 118 #[.int .u32 a, .int .u32 b] w (Rt (.int .i8 o) w)))
    (C57 : Hid (∀ w, Gt w → Calls Tryz.prog 57 #[.agg #[.int .u64 32, .int .u64 8, .int .u64 23], .int .u64 a, .int .u64 b] w (Rt (.int .i8 o) w)))
    (C119 : Hid (∀ w, Gt w → Calls Tryz.prog 119 #[.int .u32 a] w (Rt (.string s) w)))
    (C16 : Hid (∀ w, Gt w → Calls Tryz.prog 16 #[.agg #[.int .u64 32, .int .u64 8, .int .u64 23], .int .u64 a] w (Rt (.string s) w)))
    (D119 : Hid (∀ w, Gt w → Calls Tryz.prog 119 #[.int .u32 a] w (fun e w' => Rt (.string s) w e w' ∧ SZ)))
    (C120 : Hid (SZ → ∀ w, Gt w → Calls Tryz.prog 120 #[.string s] w (Rt (.tuple #[.int .u32 a, .nilIface]) w)))
    (w : World) (hg : Gt w) : Calls Tryz.prog 33 #[.agg #[.int .u8 kk, .int .i64 W, .int .u8 md, .bool ch, .int .u64 A, .int .u64 B, .int .i64 N]] w (Rt (.bool true) w) := by
  obtain ⟨C, hC⟩ : ∃ C, w.heap.size = C := ⟨_, rfl⟩
  have hlt := hg.1.lt
  obtain ⟨a0, a1, a2, -, -, -⟩ := hg.1
  go_enter Tryz.func33, Tryz.ntmps33
  go_upto_region 2 with (fail)
  refine wp_region_ext (by kernel_rfl) (by kernel_rfl) ?_
  repeat (go_big_quiet_step (fail))
  refine wpQuiet_nil ?_
  rintro w1 ⟨y1, rfl⟩
  try simp only [hA, hB, hN]
  go_upto_region 4 with (fail)
  refine wp_gen (fun W1 => W1.heap[C + 1]? = some (.cells #[.int .u64 32, .int .u64 8, .int .u64 23] 35) ∧ Gr w.heap.size w W1) ⟨?_, ?_⟩ ?_
  · have h0 := heap_new (w.alloc (.cells #[.int .u8 kk, .int .i64 W, .int .u8 md, .bool ch, .int .u64 A, .int .u64 B, .int .i64 N] 29)) (.cells #[.int .u64 32, .int .u64 8, .int .u64 23] 35)
    rw [show (w.alloc (.cells #[.int .u8 kk, .int .i64 W, .int .u8 md, .bool ch, .int .u64 A, .int .u64 B, .int .i64 N] 29)).heap.size = C + 1 by simp [hC]] at h0
    exact blk_ext h0
  · exact (((Gr.refl w).alloc _).alloc _).ext _
  rintro W1 ⟨h1, g1⟩
  have hb1 : w.heap.size ≤ C + 1 := by omega
  generalize C + 1 = fb at *
  clear hC
  have l1 := lt_of_cells h1
  have i0 : W1.cell? ⟨fb, 0, none⟩ = some (.int .u64 32) := cell_of_cells h1 0
  have i1 : W1.cell? ⟨fb, 1, none⟩ = some (.int .u64 8) := cell_of_cells h1 1
  have i2 : W1.cell? ⟨fb, 2, none⟩ = some (.int .u64 23) := cell_of_cells h1 2
  have G : Hid (Gt W1) := hidden (hg.gr g1)
  have H1 := hidden h1
  have G1 := hidden g1
  clear h1 g1 a0 a1 a2 hlt
  obtain ⟨ba0, ba1⟩ := ba
  obtain ⟨bf0, bf1⟩ := bf
  go_upto_region 8 with (first | (go_at_call 99; (with_reducible refine (C99.out _ G.out).mono ?_); rintro _ _ ⟨rfl, x99, rfl⟩) | (go_at_call 67; (with_reducible refine (C67.out _ (gt_ext G.out _)).mono ?_); rintro _ _ ⟨rfl, x67, rfl⟩))
  refine wp_gen (fun X => Gr W1.heap.size W1 X) (by repeat (first | exact Gr.refl _ | refine Gr.setCell ?_ (by simp) _ | refine Gr.alloc ?_ _ | refine Gr.ext ?_ _ | refine Gr.drew ?_)) ?_
  rintro W2 gg
  replace H1 := hidden ((gg.1.block fb l1).trans H1.out)
  replace G1 := hidden (G1.out.step gg G1.out.2)
  replace G := hidden (G.out.gr gg)
  replace l1 := lt_of_cells H1.out
  replace i0 : W2.cell? ⟨fb, 0, none⟩ = some (.int .u64 32) := cell_of_cells H1.out 0
  replace i1 : W2.cell? ⟨fb, 1, none⟩ = some (.int .u64 8) := cell_of_cells H1.out 1
  replace i2 : W2.cell? ⟨fb, 2, none⟩ = some (.int .u64 23) := cell_of_cells H1.out 2
  clear gg
  refine wp_region_ext (by kernel_rfl) (by kernel_rfl) ?_
  repeat (go_big_quiet_step (first | (go_at_call 100; first | with_reducible exact Calls_ext (C100.out _ (gt_ext G.out _)) | with_reducible exact Calls_ext2 (C100.out _ (gt_ext G.out _))) | (go_at_call 101; first | with_reducible exact Calls_ext (C101.out _ (gt_ext G.out _)) | with_reducible exact Calls_ext2 (C101.out _ (gt_ext G.out _))) | (go_at_call 72; first | with_reducible exact Calls_ext (C72.out _ (gt_ext G.out _)) | with_reducible exact Calls_ext2 (C72.out _ (gt_ext G.out _)))))
  refine wpQuiet_nil ?_
  rintro w3 ⟨z1, rfl⟩
  go_upto_region 10 with (fail)
  refine wp_region_ext (by kernel_rfl) (by kernel_rfl) ?_
  repeat (go_big_quiet_step (first | (go_at_call 102; first | with_reducible exact Calls_ext (C102.out _ (gt_ext G.out _)) | with_reducible exact Calls_ext2 (C102.out _ (gt_ext G.out _))) | (go_at_call 30; first | with_reducible exact Calls_ext (C30.out _ (gt_ext G.out _)) | with_reducible exact Calls_ext2 (C30.out _ (gt_ext G.out _))) | (go_at_call 103; first | with_reducible exact Calls_ext (C103.out _ (gt_ext G.out _)) | with_reducible exact Calls_ext2 (C103.out _ (gt_ext G.out _))) | (go_at_call 78; first | with_reducible exact Calls_ext (C78.out _ (gt_ext G.out _)) | with_reducible exact Calls_ext2 (C78.out _ (gt_ext G.out _)))))
  refine wpQuiet_nil ?_
  rintro w3 ⟨z2, rfl⟩
  obtain ⟨bn0, bn1⟩ := bn
  obtain ⟨bb0, bb1⟩ := bb
  obtain ⟨bc0, bc1⟩ := bc
  obtain ⟨bm0, bm1⟩ := bm
  obtain ⟨bd0, bd1⟩ := bd
  obtain ⟨bu0, bu1⟩ := bu
  go_upto_region 36 with (first | (go_at_call 104; (with_reducible refine (C104.out _ (gt_ext G.out _)).mono ?_); rintro _ _ ⟨rfl, x104, rfl⟩) | (go_at_call 59; (with_reducible refine (C59.out _ (gt_ext G.out _)).mono ?_); rintro _ _ ⟨rfl, x59, rfl⟩) | (go_at_call 105; (with_reducible refine (C105.out _ (gt_ext G.out _)).mono ?_); rintro _ _ ⟨rfl, x105, rfl⟩) | (go_at_call 48; (with_reducible refine (C48.out _ (gt_ext G.out _)).mono ?_); rintro _ _ ⟨rfl, x48, rfl⟩) | (go_at_call 106; (with_reducible refine (C106.out _ (gt_ext G.out _)).mono ?_); rintro _ _ ⟨rfl, x106, rfl⟩) | (go_at_call 35; (with_reducible refine (C35.out _ (gt_ext G.out _)).mono ?_); rintro _ _ ⟨rfl, x35, rfl⟩) | (go_at_call 107; (with_reducible refine (C107.out _ (gt_ext G.out _)).mono ?_); rintro _ _ ⟨rfl, x107, rfl⟩) | (go_at_call 36; (with_reducible refine (C36.out _ (gt_ext G.out _)).mono ?_); rintro _ _ ⟨rfl, x36, rfl⟩) | (go_at_call 108; (with_reducible refine (C108.out _ (gt_ext G.out _)).mono ?_); rintro _ _ ⟨rfl, x108, rfl⟩) | (go_at_call 109; (with_reducible refine (C109.out _ (gt_ext G.out _)).mono ?_); rintro _ _ ⟨rfl, x109, rfl⟩) | (go_at_call 110; (with_reducible refine (C110.out _ (gt_ext G.out _)).mono ?_); rintro _ _ ⟨rfl, x110, rfl⟩) | (go_at_call 111; (with_reducible refine (C111.out _ (gt_ext G.out _)).mono ?_); rintro _ _ ⟨rfl, x111, rfl⟩))
  refine wp_gen (fun X => Gr W2.heap.size W2 X) (by repeat (first | exact Gr.refl _ | refine Gr.setCell ?_ (by simp) _ | refine Gr.alloc ?_ _ | refine Gr.ext ?_ _ | refine Gr.drew ?_)) ?_
  rintro W3 gg
  replace H1 := hidden ((gg.1.block fb l1).trans H1.out)
  replace G1 := hidden (G1.out.step gg G1.out.2)
  replace G := hidden (G.out.gr gg)
  replace l1 := lt_of_cells H1.out
  replace i0 : W3.cell? ⟨fb, 0, none⟩ = some (.int .u64 32) := cell_of_cells H1.out 0
  replace i1 : W3.cell? ⟨fb, 1, none⟩ = some (.int .u64 8) := cell_of_cells H1.out 1
  replace i2 : W3.cell? ⟨fb, 2, none⟩ = some (.int .u64 23) := cell_of_cells H1.out 2
  clear gg
  go_wp2_with (fail)
  obtain ⟨sb, hsb⟩ : ∃ sb, W3.heap.size = sb := ⟨_, rfl⟩
  refine wp_gen (fun X => X.heap[sb]? = some (.cells #[.func (.func 112) #[] #[], .func (.func 44) #[.agg #[.int .u64 32, .int .u64 8, .int .u64 23]] #[], .func (.func 113) #[] #[], .func (.func 45) #[.agg #[.int .u64 32, .int .u64 8, .int .u64 23]] #[], .func (.func 114) #[] #[], .func (.func 46) #[.agg #[.int .u64 32, .int .u64 8, .int .u64 23]] #[], .func (.func 115) #[] #[], .func (.func 47) #[.agg #[.int .u64 32, .int .u64 8, .int .u64 23]] #[]] 157) ∧ Gr W3.heap.size W3 X) ⟨by rw [← hsb]; exact heap_new _ _, (Gr.refl W3).alloc _⟩ ?_
  rintro W4 ⟨s1, gg⟩
  simp only [hsb]
  replace H1 := hidden ((gg.1.block fb l1).trans H1.out)
  replace G1 := hidden (G1.out.step gg G1.out.2)
  replace G := hidden (G.out.gr gg)
  have S1 := hidden s1
  clear s1 gg hsb l1 i0 i1 i2
  obtain ⟨bp00, bp01⟩ := bp0
  obtain ⟨bp10, bp11⟩ := bp1
  obtain ⟨bp20, bp21⟩ := bp2
  obtain ⟨bp30, bp31⟩ := bp3
  obtain ⟨bg10, bg11⟩ := bg1
  obtain ⟨bg20, bg21⟩ := bg2
  clear hA hB hN C99 C67 C100 C101 C72 C102 C30 C103 C78 C104 C59 C105 C48 C106 C35 C107 C36 C108 C109 C110 C111
  go_loopw [38, 39, 40, 41, 42, 256] (fun _ _ _ _ _ s256 wi => ∃ j : Nat, s256 = .int .i64 j ∧ j ≤ 4 ∧ Gr W4.heap.size W4 wi) (fun _ _ _ _ _ s256 _ => (4 - intOf s256).toNat)
  case atStart => exact ⟨0, rfl, by omega, Gr.refl W4⟩
  case round =>
    obtain ⟨j, rfl, hj, gj⟩ := hrel
    have GJ := hidden gj
    have s1 := (gj.1.block sb (lt_of_cells S1.out)).trans S1.out
    have h1 := (gj.1.block fb (lt_of_cells H1.out)).trans H1.out
    have GW := hidden (G.out.gr gj)
    clear gj
    rcases j with _ | _ | _ | _ | _ | j
    · have c0 : wr.cell? ⟨sb, 0, none⟩ = some (.func (.func 112) #[] #[]) := cell_of_cells s1 0
      have c1 : wr.cell? ⟨sb, 1, none⟩ = some (.func (.func 44) #[.agg #[.int .u64 32, .int .u64 8, .int .u64 23]] #[]) := cell_of_cells s1 1
      have ls := lt_of_cells s1
      clear s1 h1
      go_wp2_with (first | (go_at_call 112; (with_reducible refine (C112.out _ (GW.out.gr (by repeat (first | exact Gr.refl _ | refine Gr.setCell ?_ (by simp) _ | refine Gr.alloc ?_ _ | refine Gr.ext ?_ _)))).mono ?_); rintro _ _ ⟨rfl, x112, rfl⟩) | (go_at_call 44; (with_reducible refine (C44.out _ (GW.out.gr (by repeat (first | exact Gr.refl _ | refine Gr.setCell ?_ (by simp) _ | refine Gr.alloc ?_ _ | refine Gr.ext ?_ _)))).mono ?_); rintro _ _ ⟨rfl, x44, rfl⟩))
      exact ⟨⟨1, rfl, by omega, by (repeat (first | exact GJ.out | refine Gr.setCell ?_ (by simp) _ | refine Gr.ext ?_ _ | refine Gr.alloc ?_ _))⟩, by simp [intOf]⟩
    · have c0 : wr.cell? ⟨sb, 2, none⟩ = some (.func (.func 113) #[] #[]) := cell_of_cells s1 2
      have c1 : wr.cell? ⟨sb, 3, none⟩ = some (.func (.func 45) #[.agg #[.int .u64 32, .int .u64 8, .int .u64 23]] #[]) := cell_of_cells s1 3
      have ls := lt_of_cells s1
      clear s1 h1
      go_wp2_with (first | (go_at_call 113; (with_reducible refine (C113.out _ (GW.out.gr (by repeat (first | exact Gr.refl _ | refine Gr.setCell ?_ (by simp) _ | refine Gr.alloc ?_ _ | refine Gr.ext ?_ _)))).mono ?_); rintro _ _ ⟨rfl, x113, rfl⟩) | (go_at_call 45; (with_reducible refine (C45.out _ (GW.out.gr (by repeat (first | exact Gr.refl _ | refine Gr.setCell ?_ (by simp) _ | refine Gr.alloc ?_ _ | refine Gr.ext ?_ _)))).mono ?_); rintro _ _ ⟨rfl, x45, rfl⟩))
      exact ⟨⟨2, rfl, by omega, by (repeat (first | exact GJ.out | refine Gr.setCell ?_ (by simp) _ | refine Gr.ext ?_ _ | refine Gr.alloc ?_ _))⟩, by simp [intOf]⟩
    · have c0 : wr.cell? ⟨sb, 4, none⟩ = some (.func (.func 114) #[] #[]) := cell_of_cells s1 4
      have c1 : wr.cell? ⟨sb, 5, none⟩ = some (.func (.func 46) #[.agg #[.int .u64 32, .int .u64 8, .int .u64 23]] #[]) := cell_of_cells s1 5
      have ls := lt_of_cells s1
      clear s1 h1
      go_wp2_with (first | (go_at_call 114; (with_reducible refine (C114.out _ (GW.out.gr (by repeat (first | exact Gr.refl _ | refine Gr.setCell ?_ (by simp) _ | refine Gr.alloc ?_ _ | refine Gr.ext ?_ _)))).mono ?_); rintro _ _ ⟨rfl, x114, rfl⟩) | (go_at_call 46; (with_reducible refine (C46.out _ (GW.out.gr (by repeat (first | exact Gr.refl _ | refine Gr.setCell ?_ (by simp) _ | refine Gr.alloc ?_ _ | refine Gr.ext ?_ _)))).mono ?_); rintro _ _ ⟨rfl, x46, rfl⟩))
      exact ⟨⟨3, rfl, by omega, by (repeat (first | exact GJ.out | refine Gr.setCell ?_ (by simp) _ | refine Gr.ext ?_ _ | refine Gr.alloc ?_ _))⟩, by simp [intOf]⟩
    · have c0 : wr.cell? ⟨sb, 6, none⟩ = some (.func (.func 115) #[] #[]) := cell_of_cells s1 6
      have c1 : wr.cell? ⟨sb, 7, none⟩ = some (.func (.func 47) #[.agg #[.int .u64 32, .int .u64 8, .int .u64 23]] #[]) := cell_of_cells s1 7
      have ls := lt_of_cells s1
      clear s1 h1
      go_wp2_with (first | (go_at_call 115; (with_reducible refine (C115.out _ (GW.out.gr (by repeat (first | exact Gr.refl _ | refine Gr.setCell ?_ (by simp) _ | refine Gr.alloc ?_ _ | refine Gr.ext ?_ _)))).mono ?_); rintro _ _ ⟨rfl, x115, rfl⟩) | (go_at_call 47; (with_reducible refine (C47.out _ (GW.out.gr (by repeat (first | exact Gr.refl _ | refine Gr.setCell ?_ (by simp) _ | refine Gr.alloc ?_ _ | refine Gr.ext ?_ _)))).mono ?_); rintro _ _ ⟨rfl, x47, rfl⟩))
      exact ⟨⟨4, rfl, by omega, by (repeat (first | exact GJ.out | refine Gr.setCell ?_ (by simp) _ | refine Gr.ext ?_ _ | refine Gr.alloc ?_ _))⟩, by simp [intOf]⟩
    · clear s1
      have l1 := lt_of_cells h1
      have i0 : wr.cell? ⟨fb, 0, none⟩ = some (.int .u64 32) := cell_of_cells h1 0
      have i1 : wr.cell? ⟨fb, 1, none⟩ = some (.int .u64 8) := cell_of_cells h1 1
      have i2 : wr.cell? ⟨fb, 2, none⟩ = some (.int .u64 23) := cell_of_cells h1 2
      have G := hidden GW.out
      have GA := hidden (G1.out.step GJ.out G1.out.2)
      clear h1 GJ GW S1 H1 G1
      go_upto_region 44 with (fail)
      refine wp_region_ext (by kernel_rfl) (by kernel_rfl) ?_
      repeat (go_big_quiet_step (first | (go_at_call 116; first | with_reducible exact Calls_ext (C116.out _ (gt_ext G.out _)) | with_reducible exact Calls_ext2 (C116.out _ (gt_ext G.out _))) | (go_at_call 53; first | with_reducible exact Calls_ext (C53.out _ (gt_ext G.out _)) | with_reducible exact Calls_ext2 (C53.out _ (gt_ext G.out _))) | (go_at_call 117; first | with_reducible exact Calls_ext (C117.out _ (gt_ext G.out _)) | with_reducible exact Calls_ext2 (C117.out _ (gt_ext G.out _))) | (go_at_call 56; first | with_reducible exact Calls_ext (C56.out _ (gt_ext G.out _)) | with_reducible exact Calls_ext2 (C56.out _ (gt_ext G.out _)))))
      refine wpQuiet_nil ?_
      rintro w5 ⟨z5, rfl⟩
      go_upto_region 46 with (fail)
      refine wp_region_ext (by kernel_rfl) (by kernel_rfl) ?_
      repeat (go_big_quiet_step (first | (go_at_call 118; first | with_reducible exact Calls_ext (C118.out _ (gt_ext G.out _)) | with_reducible exact Calls_ext2 (C118.out _ (gt_ext G.out _))) | (go_at_call 57; first | with_reducible exact Calls_ext (C57.out _ (gt_ext G.out _)) | with_reducible exact Calls_ext2 (C57.out _ (gt_ext G.out _))) | (go_at_call 119; first | with_reducible exact Calls_ext (C119.out _ (gt_ext G.out _)) | with_reducible exact Calls_ext2 (C119.out _ (gt_ext G.out _))) | (go_at_call 16; first | with_reducible exact Calls_ext (C16.out _ (gt_ext G.out _)) | with_reducible exact Calls_ext2 (C16.out _ (gt_ext G.out _)))))
      refine wpQuiet_nil ?_
      rintro w6 ⟨z6, rfl⟩
      go_wp2_with (first | (go_at_call 119; (with_reducible refine (D119.out _ (gt_ext G.out _)).mono ?_); rintro _ _ ⟨⟨rfl, x119, rfl⟩, hsz⟩) | (go_at_call 120; (with_reducible refine (C120.out hsz _ (gt_ext G.out _)).mono ?_); rintro _ _ ⟨rfl, x120, rfl⟩))
      go_ret
      exact ⟨by simp, Gr.of (GA.out.ext _)⟩
    · omega
end Go.Proofs.Qxb6500680aGreatDoor
