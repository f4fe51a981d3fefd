import Derived.Test.Qxb6500680aGreatDoorSu
namespace Go.Proofs.Qxb6500680aGreatDoor
open Go.RowKit Go.BigFrame
set_option linter.unusedSimpArgs false
set_option linter.unusedSectionVars false
attribute [local go_sem] ext_cell_if ext_frozen_if alloc_cell_if alloc_frozen_if ext_size ext_ext
/-! The full product of two words. -/
theorem mul_parts (x0 x1 y0 y1 : Nat) (h0 : x0 < 4294967296) (h1 : x1 < 4294967296) (h2 : y0 < 4294967296) (h3 : y1 < 4294967296) : x0 * y0 ≤ 18446744065119617025 ∧ x1 * y0 ≤ 18446744065119617025 ∧ x0 * y1 ≤ 18446744065119617025 ∧ x1 * y1 ≤ 18446744065119617025 :=
  ⟨Nat.mul_le_mul (Nat.le_of_lt_succ h0) (Nat.le_of_lt_succ h2), Nat.mul_le_mul (Nat.le_of_lt_succ h1) (Nat.le_of_lt_succ h2), Nat.mul_le_mul (Nat.le_of_lt_succ h0) (Nat.le_of_lt_succ h3), Nat.mul_le_mul (Nat.le_of_lt_succ h1) (Nat.le_of_lt_succ h3)⟩
theorem mul_sum (a b c d : Nat) :
    (d * 18446744073709551616 + (b + c) * 4294967296 + a) / 18446744073709551616 = d + (b + a / 4294967296) / 4294967296 + ((b + a / 4294967296) % 4294967296 + c) / 4294967296 := by omega
theorem mul_split (x0 x1 y0 y1 : Nat) : (x1 * 4294967296 + x0) * (y1 * 4294967296 + y0) = x1 * y1 * 18446744073709551616 + (x1 * y0 + x0 * y1) * 4294967296 + x0 * y0 := by
  rw [Nat.add_mul, Nat.mul_add, Nat.mul_add]
  have e1 : x1 * 4294967296 * (y1 * 4294967296) = x1 * y1 * 18446744073709551616 := by
    rw [Nat.mul_mul_mul_comm]
  have e2 : x1 * 4294967296 * y0 = x1 * y0 * 4294967296 := by rw [Nat.mul_right_comm]
  have e3 : x0 * (y1 * 4294967296) = x0 * y1 * 4294967296 := by rw [Nat.mul_assoc]
  rw [e1, e2, e3, Nat.add_mul]
  omega
theorem dm32 (x : Nat) : x / 4294967296 * 4294967296 + x % 4294967296 = x := by omega
theorem lt32 {x : Nat} (h : U64 x) : x / 4294967296 < 4294967296 := by unfold U64 at h; omega
theorem w_le (z : Nat) (h : z ≤ 18446744073709551615) : IntKind.u64.wrap (z : Int) = z := by rw [IntKind.wrap_u64]; omega
set_option maxRecDepth 100000 in
theorem mul64_hl (x y : Nat) (hx : U64 x) (hy : U64 y) (w : World) : Calls Tryz.prog 194 #[.int .u64 x, .int .u64 y] w (Rt (.tuple #[.int .u64 (x * y / 18446744073709551616 : Nat), .int .u64 (x * y % 18446744073709551616 : Nat)]) w) := by
  have ex0 : bits .and .u64 (x : Int) 4294967295 = ((x % 4294967296 : Nat) : Int) := and_low 32 (by decide) x hx
  have ey0 : bits .and .u64 (y : Int) 4294967295 = ((y % 4294967296 : Nat) : Int) := and_low 32 (by decide) y hy
  have ex1 : (x : Int) / 4294967296 = ((x / 4294967296 : Nat) : Int) := by simp
  have ey1 : (y : Int) / 4294967296 = ((y / 4294967296 : Nat) : Int) := by simp
  have elo : IntKind.u64.wrap ((x : Int) * (y : Int)) = ((x * y % 18446744073709551616 : Nat) : Int) := by rw [← wr_mod]; simp
  have hx1 := lt32 hx
  have hy1 := lt32 hy
  have hxs := dm32 x
  have hys := dm32 y
  have hx0 : x % 4294967296 < 4294967296 := Nat.mod_lt _ (by decide)
  have hy0 : y % 4294967296 < 4294967296 := Nat.mod_lt _ (by decide)
  obtain ⟨x0, h1⟩ : ∃ z, x % 4294967296 = z := ⟨_, rfl⟩
  obtain ⟨x1, h2⟩ : ∃ z, x / 4294967296 = z := ⟨_, rfl⟩
  obtain ⟨y0, h3⟩ : ∃ z, y % 4294967296 = z := ⟨_, rfl⟩
  obtain ⟨y1, h4⟩ : ∃ z, y / 4294967296 = z := ⟨_, rfl⟩
  rw [h1] at ex0 hxs hx0
  rw [h2] at ex1 hxs hx1
  rw [h3] at ey0 hys hy0
  rw [h4] at ey1 hys hy1
  have hp := mul_split x0 x1 y0 y1
  rw [hxs, hys] at hp
  obtain ⟨ba, bb, bc, bd⟩ := mul_parts x0 x1 y0 y1 hx0 hx1 hy0 hy1
  have pa : (x0 : Int) * (y0 : Int) = ((x0 * y0 : Nat) : Int) := by simp
  have pb : (x1 : Int) * (y0 : Int) = ((x1 * y0 : Nat) : Int) := by simp
  have pc : (x0 : Int) * (y1 : Int) = ((x0 * y1 : Nat) : Int) := by simp
  have pd : (x1 : Int) * (y1 : Int) = ((x1 * y1 : Nat) : Int) := by simp
  obtain ⟨a, ha⟩ : ∃ z, x0 * y0 = z := ⟨_, rfl⟩
  obtain ⟨b, hb⟩ : ∃ z, x1 * y0 = z := ⟨_, rfl⟩
  obtain ⟨c, hc⟩ : ∃ z, x0 * y1 = z := ⟨_, rfl⟩
  obtain ⟨d, hd⟩ : ∃ z, x1 * y1 = z := ⟨_, rfl⟩
  rw [ha] at pa ba hp
  rw [hb] at pb bb hp
  rw [hc] at pc bc hp
  rw [hd] at pd bd hp
  have hs := mul_sum a b c d
  rw [← hp] at hs
  obtain ⟨H, hH⟩ : ∃ z, x * y / 18446744073709551616 = z := ⟨_, rfl⟩
  obtain ⟨L, hL⟩ : ∃ z, x * y % 18446744073709551616 = z := ⟨_, rfl⟩
  have hHb : H ≤ 18446744073709551615 := by
    rw [← hH]
    exact Nat.le_of_lt_succ ((Nat.div_lt_iff_lt_mul (by decide)).2 (Nat.mul_lt_mul_of_lt_of_lt hx hy))
  rw [hH] at hs ⊢
  rw [hL] at elo ⊢
  have wa := w_le a (by omega)
  have wb := w_le b (by omega)
  have wc := w_le c (by omega)
  have wd := w_le d (by omega)
  have a1 : (a : Int) / 4294967296 = ((a / 4294967296 : Nat) : Int) := by simp
  obtain ⟨a', ha'⟩ : ∃ z, a / 4294967296 = z := ⟨_, rfl⟩
  rw [ha'] at a1 hs
  have t1 : (b : Int) + (a' : Int) = ((b + a' : Nat) : Int) := by simp
  have wt := w_le (b + a') (by omega)
  have ut : U64 (b + a') := by unfold U64; omega
  obtain ⟨t, ht⟩ : ∃ z, b + a' = z := ⟨_, rfl⟩
  rw [ht] at t1 wt hs ut
  have t2 : bits .and .u64 (t : Int) 4294967295 = ((t % 4294967296 : Nat) : Int) := and_low 32 (by decide) t ut
  have t3 : (t : Int) / 4294967296 = ((t / 4294967296 : Nat) : Int) := by simp
  have tb : t % 4294967296 < 4294967296 := Nat.mod_lt _ (by decide)
  obtain ⟨t4, ht4⟩ : ∃ z, t % 4294967296 = z := ⟨_, rfl⟩
  obtain ⟨t5, ht5⟩ : ∃ z, t / 4294967296 = z := ⟨_, rfl⟩
  rw [ht4] at t2 hs tb
  rw [ht5] at t3 hs
  have v1 : (t4 : Int) + (c : Int) = ((t4 + c : Nat) : Int) := by simp
  have wv := w_le (t4 + c) (by omega)
  obtain ⟨v, hv⟩ : ∃ z, t4 + c = z := ⟨_, rfl⟩
  rw [hv] at v1 wv hs
  have v2 : (v : Int) / 4294967296 = ((v / 4294967296 : Nat) : Int) := by simp
  obtain ⟨v3, hv3⟩ : ∃ z, v / 4294967296 = z := ⟨_, rfl⟩
  rw [hv3] at v2 hs
  have z1 : (d : Int) + (t5 : Int) = ((d + t5 : Nat) : Int) := by simp
  have wz := w_le (d + t5) (by omega)
  obtain ⟨z, hz⟩ : ∃ z, d + t5 = z := ⟨_, rfl⟩
  rw [hz] at z1 wz hs
  have q1 : (z : Int) + (v3 : Int) = (H : Int) := by omega
  have wH := w_le H hHb
  clear hz hs hv3 hv tb ht4 ht5 ht ut ha' hH hL hHb ha hb hc hd ba bb bc bd hp hx0 hx1 hy0 hy1 hxs hys h1 h2 h3 h4 hx hy
  go_enter Tryz.func194, Tryz.ntmps194
  go_wp2_with (fail)
  go_ret2
  exact ⟨rfl, Gr.of (by repeat (first | exact Gr.refl _ | refine Gr.alloc ?_ _ | refine Gr.ext ?_ _ | refine Gr.drew ?_))⟩
set_option maxRecDepth 100000 in
theorem mul128 (x y : Nat) (hx : U64 x) (hy : U64 y) (w : World) : Calls Tryz.prog 95 #[.int .u64 x, .int .u64 y] w (Rt (.agg #[.int .u64 (x * y / 18446744073709551616 : Nat), .int .u64 (x * y % 18446744073709551616 : Nat)]) w) := by
  have C194 := hidden (fun w => mul64_hl x y hx hy w)
  generalize x * y / 18446744073709551616 = H at *
  generalize x * y % 18446744073709551616 = L at *
  clear hx hy
  go_enter Tryz.func95, Tryz.ntmps95
  go_wp2_with (go_at_call 194; (with_reducible refine (C194.out _).mono ?_); rintro _ _ ⟨rfl, x194, rfl⟩)
  exact bodyPost_ret (v := .agg #[.int .u64 H, .int .u64 L]) (by simp [results, Tryz.results95, go_sem, ↓IntWalk.iteOmega]) rfl ⟨rfl, Gr.of (by repeat (first | exact Gr.refl _ | refine Gr.alloc ?_ _ | refine Gr.ext ?_ _ | refine Gr.drew ?_ | refine Gr.setCell ?_ (by simp) _))⟩
end Go.Proofs.Qxb6500680aGreatDoor
