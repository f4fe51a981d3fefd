import Derived.Test.Qxb6500680aGreatDoorSk
namespace Go.Proofs.Qxb6500680aGreatDoor
open Go.RowKit Go.BigFrame
set_option linter.unusedSimpArgs false
set_option linter.unusedSectionVars false
attribute [local go_sem] ext_cell_if ext_frozen_if alloc_cell_if alloc_frozen_if ext_size ext_ext
def isNan (EM SM p : Nat) : Bool := decide (EM < p % SM)
def isSig (EM SM QB p : Nat) : Bool := isNan EM SM p && (p / QB % 2 == 0)
def quietN (EM SM QB p : Nat) : Nat := if isNan EM SM p then (p % (2 * SM)) ||| QB else p % (2 * SM)
section
variable {W E F BI SM MM PM HB FM EM QB MB : Nat} (k : Fk W E F BI SM MM PM HB FM EM QB MB)
include k
theorem Fk.mm (p : Nat) : p % (2 * SM) % SM = p % SM := by rw [Nat.mul_comm]; exact Nat.mod_mul_right_mod _ _ _
theorem Fk.mU (p : Nat) : U64 (p % (2 * SM)) := by
  have h := k.s63
  have h2 := Nat.mod_lt p (show 0 < 2 * SM by have := k.sp; omega)
  unfold U64
  omega
theorem Fk.mS (p : Nat) : U64 (p % SM) := by
  have h := k.s63
  have h2 := Nat.mod_lt p k.sp
  unfold U64
  omega
theorem Fk.uQ : U64 QB := by have h := k.s63; have h1 := k.r3; have h2 := k.r4; unfold U64; omega
theorem Fk.uE : U64 EM := by have h := k.s63; have h1 := k.r3; unfold U64; omega
theorem Fk.zero (b : Bool) (w : World) : Calls Tryz.prog 94 #[(.agg #[.int .u64 W, .int .u64 E, .int .u64 F]), .bool b] w (Rt (.int .u64 (sgw SM b : Nat)) w) := by
  have C88 : Hid (∀ w, Calls Tryz.prog 88 #[(.agg #[.int .u64 W, .int .u64 E, .int .u64 F]), .int .u64 0, .bool b] w (Rt (.int .u64 (sgw SM b : Nat)) w)) := hidden (fun w => by have := k.withSign 0 b k.sp w; rwa [Nat.zero_add] at this)
  clear k
  go_enter Tryz.func94, Tryz.ntmps94
  go_wp2_with (go_at_call 88; (with_reducible refine (C88.out _).mono ?_); rintro _ _ ⟨rfl, x88, rfl⟩)
  go_ret
  exact ⟨rfl, Gr.of (by repeat (first | exact Gr.refl _ | refine Gr.alloc ?_ _ | refine Gr.ext ?_ _ | refine Gr.drew ?_))⟩
theorem Fk.minDenormal (b : Bool) (w : World) : Calls Tryz.prog 167 #[(.agg #[.int .u64 W, .int .u64 E, .int .u64 F]), .bool b] w (Rt (.int .u64 (1 + sgw SM b : Nat)) w) := by
  have C88 : Hid (∀ w, Calls Tryz.prog 88 #[(.agg #[.int .u64 W, .int .u64 E, .int .u64 F]), .int .u64 1, .bool b] w (Rt (.int .u64 (1 + sgw SM b : Nat)) w)) := hidden (fun w => k.withSign 1 b (by have h := k.r3; have h2 := k.r4; have h3 := k.r2; have h4 := k.r5; have h5 := k.r6; have h6 : HB ≤ MB * HB := Nat.le_mul_of_pos_left _ (by omega); omega) w)
  clear k
  go_enter Tryz.func167, Tryz.ntmps167
  go_wp2_with (go_at_call 88; (with_reducible refine (C88.out _).mono ?_); rintro _ _ ⟨rfl, x88, rfl⟩)
  go_ret
  exact ⟨rfl, Gr.of (by repeat (first | exact Gr.refl _ | refine Gr.alloc ?_ _ | refine Gr.ext ?_ _ | refine Gr.drew ?_))⟩
theorem Fk.inf (b : Bool) (w : World) : Calls Tryz.prog 143 #[(.agg #[.int .u64 W, .int .u64 E, .int .u64 F]), .bool b] w (Rt (.int .u64 (EM + sgw SM b : Nat)) w) := by
  have C88 := hidden (fun w => k.withSign EM b (by have h := k.r3; have h2 := k.hp; omega) w)
  have C85 := hidden k.c85
  clear k
  go_enter Tryz.func143, Tryz.ntmps143
  go_upto_region 1 with (fail)
  refine wp_region_ext (by kernel_rfl) (by kernel_rfl) ?_
  repeat (go_big_quiet_step ((first | (go_at_call 85; first | with_reducible exact Calls_ext (C85.out _) | with_reducible exact Calls_ext2 (C85.out _)) | (go_at_call 88; first | with_reducible exact Calls_ext (C88.out _) | with_reducible exact Calls_ext2 (C88.out _)))))
  refine wpQuiet_nil ?_
  rintro w1 ⟨y1, rfl⟩
  go_wp2_with (fail)
  go_ret
  exact ⟨rfl, Gr.of (by repeat (first | exact Gr.refl _ | refine Gr.alloc ?_ _ | refine Gr.ext ?_ _ | refine Gr.drew ?_))⟩
theorem Fk.defaultNaN (w : World) : Calls Tryz.prog 202 #[(.agg #[.int .u64 W, .int .u64 E, .int .u64 F])] w (Rt (.int .u64 (EM ||| QB : Nat)) w) := by
  have C85 := hidden k.c85
  have C173 := hidden k.c173
  have e := bor EM QB k.uE k.uQ
  clear k
  go_enter Tryz.func202, Tryz.ntmps202
  go_upto_region 1 with (fail)
  refine wp_region_ext (by kernel_rfl) (by kernel_rfl) ?_
  repeat (go_big_quiet_step ((first | (go_at_call 85; first | with_reducible exact Calls_ext (C85.out _) | with_reducible exact Calls_ext2 (C85.out _)) | (go_at_call 173; first | with_reducible exact Calls_ext (C173.out _) | with_reducible exact Calls_ext2 (C173.out _)))))
  refine wpQuiet_nil ?_
  rintro w1 ⟨y1, rfl⟩
  go_wp2_with (fail)
  go_ret
  exact ⟨rfl, Gr.of (by repeat (first | exact Gr.refl _ | refine Gr.alloc ?_ _ | refine Gr.ext ?_ _ | refine Gr.drew ?_))⟩
theorem Fk.isNaN (p : Nat) (hp : U64 p) (w : World) : Calls Tryz.prog 78 #[(.agg #[.int .u64 W, .int .u64 E, .int .u64 F]), .int .u64 p] w (Rt (.bool (isNan EM SM p)) w) := by
  have C90 := hidden k.c90
  have C85 := hidden k.c85
  have e := k.aM p hp
  unfold isNan
  obtain ⟨m, hm⟩ : ∃ m, p % SM = m := ⟨_, rfl⟩
  rw [hm] at e ⊢
  clear k hp hm
  go_enter Tryz.func78, Tryz.ntmps78
  go_upto_region 1 with (fail)
  refine wp_region_ext (by kernel_rfl) (by kernel_rfl) ?_
  repeat (go_big_quiet_step ((first | (go_at_call 90; first | with_reducible exact Calls_ext (C90.out _) | with_reducible exact Calls_ext2 (C90.out _)) | (go_at_call 85; first | with_reducible exact Calls_ext (C85.out _) | with_reducible exact Calls_ext2 (C85.out _)))))
  refine wpQuiet_nil ?_
  rintro w1 ⟨y1, rfl⟩
  go_wp2_with (fail)
  go_ret
  exact ⟨rfl, Gr.of (by repeat (first | exact Gr.refl _ | refine Gr.alloc ?_ _ | refine Gr.ext ?_ _ | refine Gr.drew ?_))⟩
theorem Fk.isFinite (p : Nat) (hp : U64 p) (w : World) : Calls Tryz.prog 30 #[(.agg #[.int .u64 W, .int .u64 E, .int .u64 F]), .int .u64 p] w (Rt (.bool (decide (p % SM < EM))) w) := by
  have C90 := hidden k.c90
  have C85 := hidden k.c85
  have e := k.aM p hp
  obtain ⟨m, hm⟩ : ∃ m, p % SM = m := ⟨_, rfl⟩
  rw [hm] at e ⊢
  clear k hp hm
  go_enter Tryz.func30, Tryz.ntmps30
  go_upto_region 1 with (fail)
  refine wp_region_ext (by kernel_rfl) (by kernel_rfl) ?_
  repeat (go_big_quiet_step ((first | (go_at_call 90; first | with_reducible exact Calls_ext (C90.out _) | with_reducible exact Calls_ext2 (C90.out _)) | (go_at_call 85; first | with_reducible exact Calls_ext (C85.out _) | with_reducible exact Calls_ext2 (C85.out _)))))
  refine wpQuiet_nil ?_
  rintro w1 ⟨y1, rfl⟩
  go_wp2_with (fail)
  go_ret
  exact ⟨rfl, Gr.of (by repeat (first | exact Gr.refl _ | refine Gr.alloc ?_ _ | refine Gr.ext ?_ _ | refine Gr.drew ?_))⟩
theorem Fk.isSignalling (p : Nat) (hp : U64 p) (w : World) : Calls Tryz.prog 80 #[(.agg #[.int .u64 W, .int .u64 E, .int .u64 F]), .int .u64 p] w (Rt (.bool (isSig EM SM QB p)) w) := by
  have C173 := hidden k.c173
  have e2 : (bits .and .u64 (p : Int) (QB : Int) == 0) = (p / QB % 2 == 0) := by
    rw [k.aQ p hp]
    have h : QB ≠ 0 := by have h1 := k.r4; have h2 := k.hp; omega
    have h2 : p / QB % 2 = 0 ∨ p / QB % 2 = 1 := by omega
    rcases h2 with h2 | h2
    · rw [h2]; simp
    · rw [h2, Nat.one_mul]; simpa using h
  have C78 := hidden (fun w => k.isNaN p hp w)
  unfold isSig
  obtain ⟨b, hb⟩ : ∃ b, isNan EM SM p = b := ⟨_, rfl⟩
  obtain ⟨c, hc⟩ : ∃ c, (p / QB % 2 == 0) = c := ⟨_, rfl⟩
  rw [hb] at C78 ⊢
  rw [hc] at e2 ⊢
  clear k hp hb hc
  cases b
  · go_enter Tryz.func80, Tryz.ntmps80
    go_wp2_with (go_at_call 78; (with_reducible refine (C78.out _).mono ?_); rintro _ _ ⟨rfl, x78, rfl⟩)
    go_ret
    exact ⟨rfl, Gr.of (by repeat (first | exact Gr.refl _ | refine Gr.alloc ?_ _ | refine Gr.ext ?_ _ | refine Gr.drew ?_))⟩
  · go_enter Tryz.func80, Tryz.ntmps80
    go_wp2_with (first | (go_at_call 78; (with_reducible refine (C78.out _).mono ?_); rintro _ _ ⟨rfl, x78, rfl⟩) | (go_at_call 173; (with_reducible refine (C173.out _).mono ?_); rintro _ _ ⟨rfl, x173, rfl⟩))
    go_ret
    exact ⟨rfl, Gr.of (by repeat (first | exact Gr.refl _ | refine Gr.alloc ?_ _ | refine Gr.ext ?_ _ | refine Gr.drew ?_))⟩
theorem Fk.quiet (p : Nat) (hp : U64 p) (w : World) : Calls Tryz.prog 166 #[(.agg #[.int .u64 W, .int .u64 E, .int .u64 F]), .int .u64 p] w (Rt (.int .u64 (quietN EM SM QB p : Nat)) w) := by
  have C173 := hidden k.c173
  have C20 := hidden k.c20
  have e := k.aP p hp
  have C78 := hidden (fun w => k.isNaN (p % (2 * SM)) (k.mU p) w)
  have e3 := bor (p % (2 * SM)) QB (k.mU p) k.uQ
  have e4 : isNan EM SM (p % (2 * SM)) = isNan EM SM p := by unfold isNan; rw [k.mm]
  rw [e4] at C78
  unfold quietN
  obtain ⟨b, hb⟩ : ∃ b, isNan EM SM p = b := ⟨_, rfl⟩
  obtain ⟨m, hm⟩ : ∃ m, p % (2 * SM) = m := ⟨_, rfl⟩
  rw [hb] at C78 ⊢
  rw [hm] at e e3 C78 ⊢
  clear k hp hb hm e4
  cases b
  · go_enter Tryz.func166, Tryz.ntmps166
    go_wp2_with (first | (go_at_call 20; (with_reducible refine (C20.out _).mono ?_); rintro _ _ ⟨rfl, x20, rfl⟩) | (go_at_call 78; (with_reducible refine (C78.out _).mono ?_); rintro _ _ ⟨rfl, x78, rfl⟩))
    go_ret
    exact ⟨rfl, Gr.of (by repeat (first | exact Gr.refl _ | refine Gr.alloc ?_ _ | refine Gr.ext ?_ _ | refine Gr.drew ?_))⟩
  · go_enter Tryz.func166, Tryz.ntmps166
    go_wp2_with (first | (go_at_call 20; (with_reducible refine (C20.out _).mono ?_); rintro _ _ ⟨rfl, x20, rfl⟩) | (go_at_call 78; (with_reducible refine (C78.out _).mono ?_); rintro _ _ ⟨rfl, x78, rfl⟩) | (go_at_call 173; (with_reducible refine (C173.out _).mono ?_); rintro _ _ ⟨rfl, x173, rfl⟩))
    go_ret
    exact ⟨rfl, Gr.of (by repeat (first | exact Gr.refl _ | refine Gr.alloc ?_ _ | refine Gr.ext ?_ _ | refine Gr.drew ?_))⟩
theorem quiet_lt (p : Nat) : quietN EM SM QB p < 2 * SM := by
  unfold quietN
  have h := Nat.mod_lt p (show 0 < 2 * SM by have := k.sp; omega)
  split
  · have h1 : 2 * SM = 2 ^ (E + F + 1) := by rw [Nat.pow_succ, k.r9, Nat.mul_comm]
    rw [h1] at h ⊢
    have h2 : QB < 2 ^ (E + F + 1) := by rw [← h1]; have h3 := k.r3; have h4 := k.r4; omega
    exact Nat.or_lt_two_pow h h2
  · exact h
theorem Fk.invalid (w : World) : Calls Tryz.prog 142 #[(.agg #[.int .u64 W, .int .u64 E, .int .u64 F])] w (Rt (.tuple #[.int .u64 (EM ||| QB : Nat), .int .u8 16]) w) := by
  have C202 := hidden k.defaultNaN
  clear k
  go_enter Tryz.func142, Tryz.ntmps142
  go_wp2_with (go_at_call 202; (with_reducible refine (C202.out _).mono ?_); rintro _ _ ⟨rfl, x202, rfl⟩)
  go_ret2
  exact ⟨rfl, Gr.of (by repeat (first | exact Gr.refl _ | refine Gr.alloc ?_ _ | refine Gr.ext ?_ _ | refine Gr.drew ?_))⟩
theorem dnan_lt : EM ||| QB < 2 * SM := by
  have h1 : 2 * SM = 2 ^ (E + F + 1) := by rw [Nat.pow_succ, k.r9, Nat.mul_comm]
  rw [h1]
  have h3 := k.r3
  have h4 := k.r4
  have h5 := k.sp
  exact Nat.or_lt_two_pow (by rw [← h1]; omega) (by rw [← h1]; omega)
theorem Fk.nanOf1 (p : Nat) (hp : U64 p) (w : World) : Calls Tryz.prog 141 #[(.agg #[.int .u64 W, .int .u64 E, .int .u64 F]), .int .u64 p] w (Rt (.tuple #[.int .u64 (quietN EM SM QB p : Nat), .int .u8 (if isSig EM SM QB p then 16 else 0)]) w) := by
  have C80 := hidden (fun w => k.isSignalling p hp w)
  have C166 := hidden (fun w => k.quiet p hp w)
  obtain ⟨b, hb⟩ : ∃ b, isSig EM SM QB p = b := ⟨_, rfl⟩
  rw [hb] at C80 ⊢
  clear k hp hb
  cases b
  · go_enter Tryz.func141, Tryz.ntmps141
    go_wp2_with (first | (go_at_call 80; (with_reducible refine (C80.out _).mono ?_); rintro _ _ ⟨rfl, x80, rfl⟩) | (go_at_call 166; (with_reducible refine (C166.out _).mono ?_); rintro _ _ ⟨rfl, x166, rfl⟩))
    go_ret2
    exact ⟨rfl, Gr.of (by repeat (first | exact Gr.refl _ | refine Gr.alloc ?_ _ | refine Gr.ext ?_ _ | refine Gr.drew ?_))⟩
  · go_enter Tryz.func141, Tryz.ntmps141
    go_wp2_with (first | (go_at_call 80; (with_reducible refine (C80.out _).mono ?_); rintro _ _ ⟨rfl, x80, rfl⟩) | (go_at_call 166; (with_reducible refine (C166.out _).mono ?_); rintro _ _ ⟨rfl, x166, rfl⟩))
    go_ret2
    exact ⟨rfl, Gr.of (by repeat (first | exact Gr.refl _ | refine Gr.alloc ?_ _ | refine Gr.ext ?_ _ | refine Gr.drew ?_))⟩
theorem Fk.nanOf2 (p q : Nat) (hp : U64 p) (hq : U64 q) (w : World) : Calls Tryz.prog 147 #[(.agg #[.int .u64 W, .int .u64 E, .int .u64 F]), .int .u64 p, .int .u64 q] w (Rt (.tuple #[.int .u64 (if isNan EM SM p then quietN EM SM QB p else quietN EM SM QB q : Nat), .int .u8 (if isSig EM SM QB p || isSig EM SM QB q then 16 else 0)]) w) := by
  have A80 := hidden (fun w => k.isSignalling p hp w)
  have B80 := hidden (fun w => k.isSignalling q hq w)
  have A78 := hidden (fun w => k.isNaN p hp w)
  have A166 := hidden (fun w => k.quiet p hp w)
  have B166 := hidden (fun w => k.quiet q hq w)
  obtain ⟨b, hb⟩ : ∃ b, isSig EM SM QB p = b := ⟨_, rfl⟩
  obtain ⟨c, hc⟩ : ∃ b, isSig EM SM QB q = b := ⟨_, rfl⟩
  obtain ⟨d, hd⟩ : ∃ b, isNan EM SM p = b := ⟨_, rfl⟩
  rw [hb] at A80 ⊢
  rw [hc] at B80 ⊢
  rw [hd] at A78 ⊢
  clear k hp hq hb hc hd
  cases b <;> cases c <;> cases d
  all_goals
    go_enter Tryz.func147, Tryz.ntmps147
    go_wp2_with (first | (go_at_call 80; first | ((with_reducible refine (A80.out _).mono ?_); rintro _ _ ⟨rfl, x1, rfl⟩) | ((with_reducible refine (B80.out _).mono ?_); rintro _ _ ⟨rfl, x2, rfl⟩)) | (go_at_call 78; (with_reducible refine (A78.out _).mono ?_); rintro _ _ ⟨rfl, x3, rfl⟩) | (go_at_call 166; first | ((with_reducible refine (A166.out _).mono ?_); rintro _ _ ⟨rfl, x4, rfl⟩) | ((with_reducible refine (B166.out _).mono ?_); rintro _ _ ⟨rfl, x5, rfl⟩)))
    go_ret2
    exact ⟨rfl, Gr.of (by repeat (first | exact Gr.refl _ | refine Gr.alloc ?_ _ | refine Gr.ext ?_ _ | refine Gr.drew ?_))⟩
theorem Fk.neg (p : Nat) (hp : U64 p) (w : World) : Calls Tryz.prog 155 #[(.agg #[.int .u64 W, .int .u64 E, .int .u64 F]), .int .u64 p] w (Rt (.int .u64 ((p ^^^ SM) % (2 * SM) : Nat)) w) := by
  have C89 := hidden k.c89
  have C20 := hidden k.c20
  have e := bxor p SM hp k.uS
  have hx : U64 (p ^^^ SM) := Nat.xor_lt_two_pow (n := 64) hp k.uS
  have e2 := k.aP (p ^^^ SM) hx
  obtain ⟨m, hm⟩ : ∃ m, p ^^^ SM = m := ⟨_, rfl⟩
  rw [hm] at e e2 ⊢
  obtain ⟨q, hq⟩ : ∃ q, m % (2 * SM) = q := ⟨_, rfl⟩
  rw [hq] at e2 ⊢
  clear k hp hx hm hq
  go_enter Tryz.func155, Tryz.ntmps155
  go_upto_region 1 with (fail)
  refine wp_region_ext (by kernel_rfl) (by kernel_rfl) ?_
  repeat (go_big_quiet_step ((first | (go_at_call 89; first | with_reducible exact Calls_ext (C89.out _) | with_reducible exact Calls_ext2 (C89.out _)) | (go_at_call 20; first | with_reducible exact Calls_ext (C20.out _) | with_reducible exact Calls_ext2 (C20.out _)))))
  refine wpQuiet_nil ?_
  rintro w1 ⟨y1, rfl⟩
  go_wp2_with (fail)
  go_ret
  exact ⟨rfl, Gr.of (by repeat (first | exact Gr.refl _ | refine Gr.alloc ?_ _ | refine Gr.ext ?_ _ | refine Gr.drew ?_))⟩
end
end Go.Proofs.Qxb6500680aGreatDoor
