import Derived.Test.Qxb6500680aGreatDoorSp
namespace Go.Proofs.Qxb6500680aGreatDoor
open Go.RowKit Go.BigFrame
set_option linter.unusedSimpArgs false
set_option linter.unusedSectionVars false
attribute [local go_sem] ext_cell_if ext_frozen_if alloc_cell_if alloc_frozen_if ext_size ext_ext
/-! Numbers of 128 bits: the upper and the lower word. -/
def zero128 (hi lo : Nat) : Bool := hi == 0 && lo == 0
def len128 (hi lo : Nat) : Nat := if hi = 0 then Lib.bitLen lo else 64 + Lib.bitLen hi
def shr128 (hi lo n : Nat) : Nat × Nat := if n = 0 then (hi, lo) else if n < 64 then (hi / 2 ^ n, (lo / 2 ^ n) ||| (hi * 2 ^ (64 - n) % 18446744073709551616)) else if n < 128 then (0, hi / 2 ^ (n - 64)) else (0, 0)
def bit128 (hi lo n : Nat) : Bool := if n < 64 then lo / 2 ^ n % 2 == 1 else if n < 128 then hi / 2 ^ (n - 64) % 2 == 1 else false
def any128 (hi lo n : Nat) : Bool := if n = 0 then false else if n < 64 then !(lo % 2 ^ n == 0) else if n = 64 then !(lo == 0) else if n < 128 then !(lo == 0) || !(hi % 2 ^ (n - 64) == 0) else !zero128 hi lo
def cut128 (hi lo n : Nat) : Nat × Bool × Bool := if 128 < n then (0, false, !zero128 hi lo) else ((shr128 hi lo n).2, bit128 hi lo (n - 1), any128 hi lo (n - 1))
theorem nbeq (n : Nat) : ((n : Int) == 0) = (n == 0) := by
  by_cases h : n = 0
  · subst h; rfl
  · rw [beq_eq_false_iff_ne.2 h, beq_eq_false_iff_ne.2 (Int.natCast_ne_zero.2 h)]
theorem isZero_eq (hi lo : Nat) (hh : U64 hi) (hl : U64 lo) (w : World) : Calls Tryz.prog 220 #[(.agg #[.int .u64 hi, .int .u64 lo])] w (Rt (.bool (zero128 hi lo)) w) := by
  have e := bor hi lo hh hl
  have e2 : (((hi ||| lo : Nat) : Int) == 0) = zero128 hi lo := by
    unfold zero128
    by_cases h1 : hi = 0
    · subst h1
      rw [Nat.zero_or]
      exact nbeq lo
    · have h3 : hi ||| lo ≠ 0 := fun h => h1 (Nat.eq_zero_of_le_zero (h ▸ Nat.left_le_or))
      have h4 : ((hi ||| lo : Nat) : Int) ≠ 0 := Int.natCast_ne_zero.2 h3
      rw [beq_eq_false_iff_ne.2 h4, beq_eq_false_iff_ne.2 h1]
      rfl
  obtain ⟨z, hz⟩ : ∃ z, hi ||| lo = z := ⟨_, rfl⟩
  rw [hz] at e e2
  obtain ⟨b, hb⟩ : ∃ b, zero128 hi lo = b := ⟨_, rfl⟩
  rw [hb] at e2 ⊢
  clear hz hb hh hl
  go_enter Tryz.func220, Tryz.ntmps220
  go_wp2_with (fail)
  go_ret
  exact ⟨rfl, Gr.of (by repeat (first | exact Gr.refl _ | refine Gr.alloc ?_ _ | refine Gr.ext ?_ _ | refine Gr.drew ?_))⟩
theorem len64_u (x : Nat) (h : U64 x) (w : World) : Calls Tryz.prog 200 #[.int .u64 x] w (Rt (.int .i64 (Lib.bitLen x : Nat)) w) := by
  refine (Tryz.bits_Len64 x w (by omega) (by unfold U64 at h; omega)).mono ?_
  intro e w' h
  obtain ⟨h1, h2⟩ := h
  exact ⟨by simpa using h1, by rw [h2]; exact Gr.of (Gr.refl _)⟩
theorem bitLen_eq (hi lo : Nat) (hh : U64 hi) (hl : U64 lo) (w : World) : Calls Tryz.prog 174 #[(.agg #[.int .u64 hi, .int .u64 lo])] w (Rt (.int .i64 (len128 hi lo : Nat)) w) := by
  have A := hidden (fun w => len64_u hi hh w)
  have B := hidden (fun w => len64_u lo hl w)
  have b1 := len_le hi
  unfold len128
  generalize Lib.bitLen hi = h1 at *
  generalize Lib.bitLen lo = l1 at *
  clear hh hl
  by_cases c : hi = 0
  · subst c
    simp only [if_true]
    go_enter Tryz.func174, Tryz.ntmps174
    go_wp2_with (go_at_call 200; (with_reducible refine (B.out _).mono ?_); rintro _ _ ⟨rfl, x1, rfl⟩)
    go_ret
    exact ⟨rfl, Gr.of (by repeat (first | exact Gr.refl _ | refine Gr.alloc ?_ _ | refine Gr.ext ?_ _ | refine Gr.drew ?_))⟩
  · simp only [c, if_false]
    have c' : ((hi : Int) != 0) = true := by simp [c]
    go_enter Tryz.func174, Tryz.ntmps174
    go_wp2_with (go_at_call 200; (with_reducible refine (A.out _).mono ?_); rintro _ _ ⟨rfl, x1, rfl⟩)
    go_ret
    exact ⟨rfl, Gr.of (by repeat (first | exact Gr.refl _ | refine Gr.alloc ?_ _ | refine Gr.ext ?_ _ | refine Gr.drew ?_))⟩
theorem roundsUp_eq (neg odd half rest : Bool) (w : World) : Calls Tryz.prog 157 #[.int .u8 0, .bool neg, .bool odd, .bool half, .bool rest] w (Rt (.bool (half && (rest || odd))) w) := by
  cases half <;> cases rest
  all_goals
    go_enter Tryz.func157, Tryz.ntmps157
    go_wp2_with (fail)
    go_ret
    exact ⟨rfl, Gr.of (by repeat (first | exact Gr.refl _ | refine Gr.alloc ?_ _ | refine Gr.ext ?_ _ | refine Gr.drew ?_))⟩
section
variable {W E F BI SM MM PM HB FM EM QB MB : Nat} (k : Fk W E F BI SM MM PM HB FM EM QB MB)
include k
theorem Fk.overflow (b : Bool) (w : World) : Calls Tryz.prog 195 #[(.agg #[.int .u64 W, .int .u64 E, .int .u64 F]), .int .u8 0, .bool b] w (Rt (.tuple #[.int .u64 (EM + sgw SM b : Nat), .int .u8 5]) w) := by
  have C143 := hidden (fun w => k.inf b w)
  clear k
  go_enter Tryz.func195, Tryz.ntmps195
  go_wp2_with (go_at_call 143; (with_reducible refine (C143.out _).mono ?_); rintro _ _ ⟨rfl, x143, rfl⟩)
  go_ret2
  exact ⟨rfl, Gr.of (by repeat (first | exact Gr.refl _ | refine Gr.alloc ?_ _ | refine Gr.ext ?_ _ | refine Gr.drew ?_))⟩
end
theorem pw_div (a n : Nat) : ((a : Int) / 2 ^ n) = ((a / 2 ^ n : Nat) : Int) := by simp
theorem div_u {a : Nat} (h : U64 a) (n : Nat) : U64 (a / 2 ^ n) := Nat.lt_of_le_of_lt (Nat.div_le_self _ _) h
theorem wr_mod (z : Nat) : IntKind.u64.wrap (z : Int) = ((z % 18446744073709551616 : Nat) : Int) := by rw [IntKind.wrap_u64]; omega
theorem shl_eq (a n : Nat) : IntKind.u64.wrap ((a : Int) * 2 ^ n) = ((a * 2 ^ n % 18446744073709551616 : Nat) : Int) := by
  rw [← wr_mod]; simp
set_option maxRecDepth 100000 in
theorem shr_eq (hi lo n : Nat) (hl : U64 lo) (w : World) : Calls Tryz.prog 203 #[(.agg #[.int .u64 hi, .int .u64 lo]), .int .u64 n] w (Rt (.agg #[.int .u64 ((shr128 hi lo n).1 : Nat), .int .u64 ((shr128 hi lo n).2 : Nat)]) w) := by
  unfold shr128
  by_cases c0 : n = 0
  · subst c0
    simp only [if_true]
    clear hl
    go_enter Tryz.func203, Tryz.ntmps203
    go_wp2_with (fail)
    exact bodyPost_ret (v := .agg #[.int .u64 hi, .int .u64 lo]) (by simp [results, Tryz.results203, go_sem, ↓IntWalk.iteOmega]) rfl ⟨rfl, Gr.of (by repeat (first | exact Gr.refl _ | refine Gr.alloc ?_ _ | refine Gr.ext ?_ _ | refine Gr.drew ?_ | refine Gr.setCell ?_ (by simp) _))⟩
  rw [if_neg c0]
  by_cases c1 : n < 64
  · rw [if_pos c1]
    obtain ⟨S, hS⟩ : ∃ S, 64 - n = S := ⟨_, rfl⟩
    have hS2 : (64 : Int) - (n : Int) = S := by omega
    have hS3 : S ≤ 64 := by omega
    rw [hS]
    have e1 := pw_div hi n
    have e2 : bits .or .u64 ((lo : Int) / 2 ^ n) (IntKind.u64.wrap ((hi : Int) * 2 ^ S)) = ((lo / 2 ^ n ||| hi * 2 ^ S % 18446744073709551616 : Nat) : Int) := by
      rw [pw_div, shl_eq]
      exact bor _ _ (div_u hl n) (Nat.mod_lt _ (by decide))
    rw [← e1, ← e2]
    clear e1 e2 hl hS
    go_enter Tryz.func203, Tryz.ntmps203
    go_wp2_with (fail)
    exact bodyPost_ret (v := .agg #[.int .u64 ((hi : Int) / 2 ^ n), .int .u64 (bits .or .u64 ((lo : Int) / 2 ^ n) (IntKind.u64.wrap ((hi : Int) * 2 ^ S)))]) (by simp [results, Tryz.results203, go_sem, ↓IntWalk.iteOmega]) rfl ⟨rfl, Gr.of (by repeat (first | exact Gr.refl _ | refine Gr.alloc ?_ _ | refine Gr.ext ?_ _ | refine Gr.drew ?_ | refine Gr.setCell ?_ (by simp) _))⟩
  rw [if_neg c1]
  by_cases c2 : n < 128
  · rw [if_pos c2]
    obtain ⟨S, hS⟩ : ∃ S, n - 64 = S := ⟨_, rfl⟩
    have hS2 : (n : Int) - 64 = S := by omega
    have hS3 : S < 64 := by omega
    rw [hS, ← pw_div hi S]
    clear hl hS
    go_enter Tryz.func203, Tryz.ntmps203
    go_wp2_with (fail)
    exact bodyPost_ret (v := .agg #[.int .u64 0, .int .u64 ((hi : Int) / 2 ^ S)]) (by simp [results, Tryz.results203, go_sem, ↓IntWalk.iteOmega]) rfl ⟨rfl, Gr.of (by repeat (first | exact Gr.refl _ | refine Gr.alloc ?_ _ | refine Gr.ext ?_ _ | refine Gr.drew ?_ | refine Gr.setCell ?_ (by simp) _))⟩
  · rw [if_neg c2]
    clear hl
    go_enter Tryz.func203, Tryz.ntmps203
    go_wp2_with (fail)
    exact bodyPost_ret (v := .agg #[.int .u64 0, .int .u64 0]) (by simp [results, Tryz.results203, go_sem, ↓IntWalk.iteOmega]) rfl ⟨rfl, Gr.of (by repeat (first | exact Gr.refl _ | refine Gr.alloc ?_ _ | refine Gr.ext ?_ _ | refine Gr.drew ?_ | refine Gr.setCell ?_ (by simp) _))⟩
theorem and1 (a : Nat) (h : U64 a) : (bits .and .u64 (a : Int) 1 != 0) = (a % 2 == 1) := by
  have e := and_low 1 (by decide) a h
  rw [show (1 : Int) = ((2 ^ 1 - 1 : Nat) : Int) by decide, e]
  have h2 : a % 2 = 0 ∨ a % 2 = 1 := by omega
  rcases h2 with h2 | h2 <;> simp [h2]
set_option maxRecDepth 100000 in
theorem bit_eq (hi lo n : Nat) (hh : U64 hi) (hl : U64 lo) (w : World) : Calls Tryz.prog 221 #[(.agg #[.int .u64 hi, .int .u64 lo]), .int .u64 n] w (Rt (.bool (bit128 hi lo n)) w) := by
  unfold bit128
  by_cases c1 : n < 64
  · rw [if_pos c1]
    have e := and1 (lo / 2 ^ n) (div_u hl n)
    rw [← pw_div] at e
    rw [← e]
    clear e hh hl
    go_enter Tryz.func221, Tryz.ntmps221
    go_wp2_with (fail)
    go_ret
    exact ⟨rfl, Gr.of (by repeat (first | exact Gr.refl _ | refine Gr.alloc ?_ _ | refine Gr.ext ?_ _ | refine Gr.drew ?_))⟩
  rw [if_neg c1]
  by_cases c2 : n < 128
  · rw [if_pos c2]
    obtain ⟨S, hS⟩ : ∃ S, n - 64 = S := ⟨_, rfl⟩
    have hS2 : (n : Int) - 64 = S := by omega
    have hS3 : S < 64 := by omega
    rw [hS]
    have e := and1 (hi / 2 ^ S) (div_u hh S)
    rw [← pw_div] at e
    rw [← e]
    clear e hh hl hS
    go_enter Tryz.func221, Tryz.ntmps221
    go_wp2_with (fail)
    go_ret
    exact ⟨rfl, Gr.of (by repeat (first | exact Gr.refl _ | refine Gr.alloc ?_ _ | refine Gr.ext ?_ _ | refine Gr.drew ?_))⟩
  · rw [if_neg c2]
    clear hh hl
    go_enter Tryz.func221, Tryz.ntmps221
    go_wp2_with (fail)
    go_ret
    exact ⟨rfl, Gr.of (by repeat (first | exact Gr.refl _ | refine Gr.alloc ?_ _ | refine Gr.ext ?_ _ | refine Gr.drew ?_))⟩
theorem lowmask (lo n : Nat) (hl : U64 lo) (hn : n < 64) : (bits .and .u64 (lo : Int) (IntKind.u64.wrap (IntKind.u64.wrap (2 ^ n) - 1)) != 0) = !(lo % 2 ^ n == 0) := by
  have e : IntKind.u64.wrap (IntKind.u64.wrap (2 ^ n) - 1) = ((2 ^ n - 1 : Nat) : Int) := by
    have h1 : 1 ≤ 2 ^ n := Nat.one_le_two_pow
    have h2 : 2 ^ n ≤ 9223372036854775808 := Nat.pow_le_pow_right (show 0 < 2 by decide) (show n ≤ 63 by omega)
    rw [show (2 : Int) ^ n = ((2 ^ n : Nat) : Int) by simp]
    generalize 2 ^ n = z at h1 h2
    simp only [IntKind.wrap_u64]
    omega
  rw [e, and_low n (by omega) lo hl, bne, nbeq]
theorem nbne (n : Nat) : ((n : Int) != 0) = !(n == 0) := by rw [bne, nbeq]
set_option maxRecDepth 100000 in
theorem any_eq (hi lo n : Nat) (hh : U64 hi) (hl : U64 lo) (w : World) : Calls Tryz.prog 204 #[(.agg #[.int .u64 hi, .int .u64 lo]), .int .u64 n] w (Rt (.bool (any128 hi lo n)) w) := by
  have Z := hidden (fun w => isZero_eq hi lo hh hl w)
  unfold any128
  by_cases c0 : n = 0
  · subst c0
    simp only [if_true]
    clear hh hl
    go_enter Tryz.func204, Tryz.ntmps204
    go_wp2_with (fail)
    go_ret
    exact ⟨rfl, Gr.of (by repeat (first | exact Gr.refl _ | refine Gr.alloc ?_ _ | refine Gr.ext ?_ _ | refine Gr.drew ?_))⟩
  rw [if_neg c0]
  by_cases c1 : n < 64
  · rw [if_pos c1, ← lowmask lo n hl c1]
    clear hh hl
    go_enter Tryz.func204, Tryz.ntmps204
    go_wp2_with (fail)
    go_ret
    exact ⟨rfl, Gr.of (by repeat (first | exact Gr.refl _ | refine Gr.alloc ?_ _ | refine Gr.ext ?_ _ | refine Gr.drew ?_))⟩
  rw [if_neg c1]
  by_cases c2 : n = 64
  · subst c2
    rw [if_pos rfl, ← nbne lo]
    clear hh hl
    go_enter Tryz.func204, Tryz.ntmps204
    go_wp2_with (fail)
    go_ret
    exact ⟨rfl, Gr.of (by repeat (first | exact Gr.refl _ | refine Gr.alloc ?_ _ | refine Gr.ext ?_ _ | refine Gr.drew ?_))⟩
  rw [if_neg c2]
  by_cases c3 : n < 128
  · rw [if_pos c3]
    obtain ⟨S, hS⟩ : ∃ S, n - 64 = S := ⟨_, rfl⟩
    have hS2 : (n : Int) - 64 = S := by omega
    have hS3 : S < 64 := by omega
    rw [hS, ← nbne lo, ← lowmask hi S hh hS3]
    clear hh hl hS
    obtain ⟨b, hb⟩ : ∃ b, ((lo : Int) != 0) = b := ⟨_, rfl⟩
    rw [hb]
    cases b
    · go_enter Tryz.func204, Tryz.ntmps204
      go_wp2_with (fail)
      go_ret
      exact ⟨rfl, Gr.of (by repeat (first | exact Gr.refl _ | refine Gr.alloc ?_ _ | refine Gr.ext ?_ _ | refine Gr.drew ?_))⟩
    · go_enter Tryz.func204, Tryz.ntmps204
      go_wp2_with (fail)
      go_ret
      exact ⟨rfl, Gr.of (by repeat (first | exact Gr.refl _ | refine Gr.alloc ?_ _ | refine Gr.ext ?_ _ | refine Gr.drew ?_))⟩
  · rw [if_neg c3]
    generalize zero128 hi lo = z at *
    clear hh hl
    go_enter Tryz.func204, Tryz.ntmps204
    go_wp2_with (go_at_call 220; (with_reducible refine (Z.out _).mono ?_); rintro _ _ ⟨rfl, x1, rfl⟩)
    go_ret
    exact ⟨rfl, Gr.of (by repeat (first | exact Gr.refl _ | refine Gr.alloc ?_ _ | refine Gr.ext ?_ _ | refine Gr.drew ?_))⟩
theorem field134 (a0 b0 : Int) (w : World) : (Instr.field 134 (.agg #[.int .u64 a0, .int .u64 b0]) 1).run Tryz.prog w = .ok (.int .u64 b0) w := by kernel_rfl
set_option maxRecDepth 100000 in
theorem cut_eq (hi lo n : Nat) (hh : U64 hi) (hl : U64 lo) (h1 : 1 ≤ n) (w : World) : Calls Tryz.prog 196 #[(.agg #[.int .u64 hi, .int .u64 lo]), .int .u64 n] w (Rt (.tuple #[.int .u64 ((cut128 hi lo n).1 : Nat), .bool (cut128 hi lo n).2.1, .bool (cut128 hi lo n).2.2]) w) := by
  have Z := hidden (fun w => isZero_eq hi lo hh hl w)
  have A := hidden (fun w => shr_eq hi lo n hl w)
  have B := hidden (fun w => bit_eq hi lo (n - 1) hh hl w)
  have D := hidden (fun w => any_eq hi lo (n - 1) hh hl w)
  unfold cut128
  obtain ⟨m, hm⟩ : ∃ m, n - 1 = m := ⟨_, rfl⟩
  have hm2 : (n : Int) - 1 = m := by omega
  rw [hm] at B D ⊢
  generalize zero128 hi lo = z at *
  generalize shr128 hi lo n = r at *
  generalize bit128 hi lo m = b at *
  generalize any128 hi lo m = d at *
  obtain ⟨r1, r2⟩ := r
  dsimp only at A ⊢
  clear hh hl hm
  by_cases c1 : 128 < n
  · simp only [c1, if_true]
    clear hm2
    go_enter Tryz.func196, Tryz.ntmps196
    go_wp2_with (go_at_call 220; (with_reducible refine (Z.out _).mono ?_); rintro _ _ ⟨rfl, x1, rfl⟩)
    exact bodyPost_ret (v := .tuple #[.int .u64 0, .bool false, .bool (!z)]) (by simp [results, Tryz.results196, go_sem, ↓IntWalk.iteOmega]) rfl ⟨rfl, Gr.of (by repeat (first | exact Gr.refl _ | refine Gr.alloc ?_ _ | refine Gr.ext ?_ _ | refine Gr.drew ?_))⟩
  · simp only [c1, if_false]
    have f1 := fun w => field134 r1 r2 w
    go_enter Tryz.func196, Tryz.ntmps196
    go_upto_region 3 with (fail)
    refine wp_region_ext (by kernel_rfl) (by kernel_rfl) ?_
    repeat (go_big_quiet_step ((first | (go_at_call 203; first | with_reducible exact Calls_ext (A.out _) | with_reducible exact Calls_ext2 (A.out _)) | (go_at_call 221; first | with_reducible exact Calls_ext (B.out _) | with_reducible exact Calls_ext2 (B.out _)) | (go_at_call 204; first | with_reducible exact Calls_ext (D.out _) | with_reducible exact Calls_ext2 (D.out _)))))
    refine wpQuiet_nil ?_
    rintro w1 ⟨y1, rfl⟩
    go_wp2_with (fail)
    exact bodyPost_ret (v := .tuple #[.int .u64 r2, .bool b, .bool d]) (by simp [results, Tryz.results196, go_sem, ↓IntWalk.iteOmega]) rfl ⟨rfl, Gr.of (by repeat (first | exact Gr.refl _ | refine Gr.alloc ?_ _ | refine Gr.ext ?_ _ | refine Gr.drew ?_))⟩
end Go.Proofs.Qxb6500680aGreatDoor
