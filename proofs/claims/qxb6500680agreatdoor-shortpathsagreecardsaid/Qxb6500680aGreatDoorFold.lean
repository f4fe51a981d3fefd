import Derived.Test.Qxb6500680aGreatDoorAlt
namespace Go.Proofs.Qxb6500680aGreatDoor
open Go.RowKit Go.BigFrame
set_option linter.unusedSimpArgs false
attribute [local go_sem] ext_cell_if ext_frozen_if alloc_cell_if alloc_frozen_if ext_size ext_ext
theorem i64r {n : Int} (h : InR .i64 n) : -9223372036854775808 ≤ n ∧ n ≤ 9223372036854775807 := h
/-- A call that answers a number and leaves the memory alone. -/
def RW (k : IntKind) (w : World) (e : Ending) (w' : World) : Prop := ∃ a : Int, e = .returned (.int k a) ∧ InR k a ∧ w' = w
theorem wrap70 (N : Int) (hN : InR .i64 N) (w : World) : Calls Tryz.prog 215 #[.int .i64 N, .int .i64 0, .int .i64 70] w (RW .i64 w) := by
  have hN := i64r hN
  obtain ⟨q, hq, hb⟩ : ∃ q : Int, N.tmod 71 = q ∧ (-71 < q ∧ q < 71) := ⟨_, rfl, tmod_bd N 71 (by decide)⟩
  go_enter Tryz.func215, Tryz.ntmps215
  by_cases c : q < 0
  all_goals
    go_wp2_with (fail)
    go_ret
    exact ⟨_, rfl, i64_in _ (by first | omega | exact (wrap64_bd _).1) (by first | omega | exact (wrap64_bd _).2), rfl⟩
theorem wrap5000 (N : Int) (hN : InR .i64 N) (w : World) : Calls Tryz.prog 215 #[.int .i64 N, .int .i64 (-5000), .int .i64 5000] w (RW .i64 w) := by
  have hN := i64r hN
  obtain ⟨q, hq, hb⟩ : ∃ q : Int, N.tmod 10001 = q ∧ (-10001 < q ∧ q < 10001) := ⟨_, rfl, tmod_bd N 10001 (by decide)⟩
  go_enter Tryz.func215, Tryz.ntmps215
  by_cases c : q < 0
  all_goals
    go_wp2_with (fail)
    go_ret
    exact ⟨_, rfl, i64_in _ (by first | omega | exact (wrap64_bd _).1) (by first | omega | exact (wrap64_bd _).2), rfl⟩
/-- A step that is ready to be played. -/
def OpV (v : Value) : Prop := ∃ (k : Nat) (W md : Int) (ch : Bool) (A B N : Int), v = .agg #[.int .u8 k, .int .i64 W, .int .u8 md, .bool ch, .int .u64 A, .int .u64 B, .int .i64 N] ∧ k < 26 ∧ (W = 32 ∨ W = 64) ∧ InR .u8 md ∧ InR .u64 A ∧ InR .u64 B ∧ InR .i64 N
def FoldOK (w : World) (e : Ending) (w' : World) : Prop := ∃ v, e = .returned v ∧ OpV v ∧ ∃ x, w' = ext w x
set_option maxRecDepth 100000 in
set_option maxHeartbeats 4000000 in
theorem fold_any (k W md : Int) (ch : Bool) (A B N : Int) (hk : InR .u8 k) (hm : InR .u8 md) (hA : InR .u64 A) (hB : InR .u64 B) (hN : InR .i64 N) (w : World) : Calls Tryz.prog 177 #[.agg #[.int .u8 k, .int .i64 W, .int .u8 md, .bool ch, .int .u64 A, .int .u64 B, .int .i64 N]] w (FoldOK w) := by
  obtain ⟨K, hK, hKb⟩ : ∃ K : Nat, k.tmod 26 = K ∧ K < 26 := by
    have h : 0 ≤ k ∧ k ≤ 255 := hk
    have h1 := Int.tmod_nonneg 26 h.1
    have h2 := Int.tmod_lt_of_pos k (b := 26) (by decide)
    exact ⟨(k.tmod 26).toNat, by omega, by omega⟩
  obtain ⟨M, hM, hMb⟩ : ∃ M : Int, md.tmod 5 = M ∧ InR .u8 M := by
    have h : 0 ≤ md ∧ md ≤ 255 := hm
    have h1 := Int.tmod_nonneg 5 h.1
    have h2 := Int.tmod_lt_of_pos md (b := 5) (by decide)
    exact ⟨_, rfl, (⟨by omega, by omega⟩ : 0 ≤ md.tmod 5 ∧ md.tmod 5 ≤ 255)⟩
  have W70 := hidden (wrap70 N hN)
  have W50 := hidden (wrap5000 N hN)
  have HA := hidden hA
  have HB := hidden hB
  have HN := hidden hN
  have HM := hidden hMb
  clear hk hm hA hB hN hMb
  go_enter Tryz.func177, Tryz.ntmps177
  have hKb := hidden hKb
  have fin : Hid (∀ (k : Nat) (W' m A' B' N' : Int) (w' : World), k < 26 → (W' = 32 ∨ W' = 64) → InR .u8 m → InR .u64 A' → InR .u64 B' → InR .i64 N' → Gr w.heap.size w w' → FoldOK w (.returned (.agg #[.int .u8 k, .int .i64 W', .int .u8 m, .bool ch, .int .u64 A', .int .u64 B', .int .i64 N'])) w') := hidden (fun k W' m A' B' N' w' h1 h2 h3 h4 h5 h6 h7 => ⟨_, rfl, ⟨k, W', m, ch, A', B', N', rfl, h1, h2, h3, h4, h5, h6⟩, Gr.of h7⟩)
  by_cases cW : W = 64
  · have hW : W = 64 := cW
    subst hW
    by_cases k21 : K = 21
    · subst k21
      go_wp2_with (go_at_call 215; first | ((with_reducible refine (W70.out _).mono ?_); rintro _ _ ⟨N2, rfl, hN2, rfl⟩) | ((with_reducible refine (W50.out _).mono ?_); rintro _ _ ⟨N2, rfl, hN2, rfl⟩))
      exact bodyPost_ret (v := .agg #[.int .u8 (21 : Nat), .int .i64 32, .int .u8 M, .bool ch, .int .u64 (bits .and .u64 A 4294967295), .int .u64 (bits .and .u64 B 4294967295), .int .i64 N]) (by simp [results, Tryz.results177, go_sem, ↓IntWalk.iteOmega]) rfl (fin.out 21 32 _ _ _ _ _ (by first | decide | exact hKb.out) (by decide) HM.out (bits_in _ _ _) (bits_in _ _ _) HN.out (by repeat (first | exact Gr.refl _ | refine Gr.alloc ?_ _ | refine Gr.ext ?_ _ | refine Gr.drew ?_ | refine Gr.setCell ?_ (by simp) _)))
    have e21 : ((K : Int) == 21) = false := by rw [beq_eq_false_iff_ne]; omega
    by_cases k22 : K = 22
    · subst k22
      go_wp2_with (go_at_call 215; first | ((with_reducible refine (W70.out _).mono ?_); rintro _ _ ⟨N2, rfl, hN2, rfl⟩) | ((with_reducible refine (W50.out _).mono ?_); rintro _ _ ⟨N2, rfl, hN2, rfl⟩))
      exact bodyPost_ret (v := .agg #[.int .u8 (22 : Nat), .int .i64 64, .int .u8 M, .bool ch, .int .u64 A, .int .u64 B, .int .i64 N]) (by simp [results, Tryz.results177, go_sem, ↓IntWalk.iteOmega]) rfl (fin.out 22 64 _ _ _ _ _ (by first | decide | exact hKb.out) (by decide) HM.out HA.out HB.out HN.out (by repeat (first | exact Gr.refl _ | refine Gr.alloc ?_ _ | refine Gr.ext ?_ _ | refine Gr.drew ?_ | refine Gr.setCell ?_ (by simp) _)))
    have e22 : ((K : Int) == 22) = false := by rw [beq_eq_false_iff_ne]; omega
    by_cases k25 : K = 25
    · subst k25
      go_wp2_with (go_at_call 215; first | ((with_reducible refine (W70.out _).mono ?_); rintro _ _ ⟨N2, rfl, hN2, rfl⟩) | ((with_reducible refine (W50.out _).mono ?_); rintro _ _ ⟨N2, rfl, hN2, rfl⟩))
      exact bodyPost_ret (v := .agg #[.int .u8 (25 : Nat), .int .i64 64, .int .u8 M, .bool ch, .int .u64 A, .int .u64 B, .int .i64 N2]) (by simp [results, Tryz.results177, go_sem, ↓IntWalk.iteOmega]) rfl (fin.out 25 64 _ _ _ _ _ (by first | decide | exact hKb.out) (by decide) HM.out HA.out HB.out hN2 (by repeat (first | exact Gr.refl _ | refine Gr.alloc ?_ _ | refine Gr.ext ?_ _ | refine Gr.drew ?_ | refine Gr.setCell ?_ (by simp) _)))
    have e25 : ((K : Int) == 25) = false := by rw [beq_eq_false_iff_ne]; omega
    by_cases k3 : K = 3
    · subst k3
      go_wp2_with (go_at_call 215; first | ((with_reducible refine (W70.out _).mono ?_); rintro _ _ ⟨N2, rfl, hN2, rfl⟩) | ((with_reducible refine (W50.out _).mono ?_); rintro _ _ ⟨N2, rfl, hN2, rfl⟩))
      exact bodyPost_ret (v := .agg #[.int .u8 (3 : Nat), .int .i64 64, .int .u8 M, .bool ch, .int .u64 A, .int .u64 B, .int .i64 N2]) (by simp [results, Tryz.results177, go_sem, ↓IntWalk.iteOmega]) rfl (fin.out 3 64 _ _ _ _ _ (by first | decide | exact hKb.out) (by decide) HM.out HA.out HB.out hN2 (by repeat (first | exact Gr.refl _ | refine Gr.alloc ?_ _ | refine Gr.ext ?_ _ | refine Gr.drew ?_ | refine Gr.setCell ?_ (by simp) _)))
    have e3 : ((K : Int) == 3) = false := by rw [beq_eq_false_iff_ne]; omega
    by_cases k12 : K = 12
    · subst k12
      go_wp2_with (go_at_call 215; first | ((with_reducible refine (W70.out _).mono ?_); rintro _ _ ⟨N2, rfl, hN2, rfl⟩) | ((with_reducible refine (W50.out _).mono ?_); rintro _ _ ⟨N2, rfl, hN2, rfl⟩))
      exact bodyPost_ret (v := .agg #[.int .u8 (12 : Nat), .int .i64 64, .int .u8 M, .bool ch, .int .u64 A, .int .u64 B, .int .i64 N2]) (by simp [results, Tryz.results177, go_sem, ↓IntWalk.iteOmega]) rfl (fin.out 12 64 _ _ _ _ _ (by first | decide | exact hKb.out) (by decide) HM.out HA.out HB.out hN2 (by repeat (first | exact Gr.refl _ | refine Gr.alloc ?_ _ | refine Gr.ext ?_ _ | refine Gr.drew ?_ | refine Gr.setCell ?_ (by simp) _)))
    have e12 : ((K : Int) == 12) = false := by rw [beq_eq_false_iff_ne]; omega
    have f25 : ((K : Int) != 25) = true := by simp; omega
    go_wp2_with (go_at_call 215; first | ((with_reducible refine (W70.out _).mono ?_); rintro _ _ ⟨N2, rfl, hN2, rfl⟩) | ((with_reducible refine (W50.out _).mono ?_); rintro _ _ ⟨N2, rfl, hN2, rfl⟩))
    exact bodyPost_ret (v := .agg #[.int .u8 (K : Nat), .int .i64 64, .int .u8 M, .bool ch, .int .u64 A, .int .u64 B, .int .i64 N]) (by simp [results, Tryz.results177, go_sem, ↓IntWalk.iteOmega]) rfl (fin.out K 64 _ _ _ _ _ (by first | decide | exact hKb.out) (by decide) HM.out HA.out HB.out HN.out (by repeat (first | exact Gr.refl _ | refine Gr.alloc ?_ _ | refine Gr.ext ?_ _ | refine Gr.drew ?_ | refine Gr.setCell ?_ (by simp) _)))
  · have hW : (W != 64) = true := by simpa using cW
    by_cases k21 : K = 21
    · subst k21
      go_wp2_with (go_at_call 215; first | ((with_reducible refine (W70.out _).mono ?_); rintro _ _ ⟨N2, rfl, hN2, rfl⟩) | ((with_reducible refine (W50.out _).mono ?_); rintro _ _ ⟨N2, rfl, hN2, rfl⟩))
      exact bodyPost_ret (v := .agg #[.int .u8 (21 : Nat), .int .i64 32, .int .u8 M, .bool ch, .int .u64 (bits .and .u64 A 4294967295), .int .u64 (bits .and .u64 B 4294967295), .int .i64 N]) (by simp [results, Tryz.results177, go_sem, ↓IntWalk.iteOmega]) rfl (fin.out 21 32 _ _ _ _ _ (by first | decide | exact hKb.out) (by decide) HM.out (bits_in _ _ _) (bits_in _ _ _) HN.out (by repeat (first | exact Gr.refl _ | refine Gr.alloc ?_ _ | refine Gr.ext ?_ _ | refine Gr.drew ?_ | refine Gr.setCell ?_ (by simp) _)))
    have e21 : ((K : Int) == 21) = false := by rw [beq_eq_false_iff_ne]; omega
    by_cases k22 : K = 22
    · subst k22
      go_wp2_with (go_at_call 215; first | ((with_reducible refine (W70.out _).mono ?_); rintro _ _ ⟨N2, rfl, hN2, rfl⟩) | ((with_reducible refine (W50.out _).mono ?_); rintro _ _ ⟨N2, rfl, hN2, rfl⟩))
      exact bodyPost_ret (v := .agg #[.int .u8 (22 : Nat), .int .i64 64, .int .u8 M, .bool ch, .int .u64 A, .int .u64 B, .int .i64 N]) (by simp [results, Tryz.results177, go_sem, ↓IntWalk.iteOmega]) rfl (fin.out 22 64 _ _ _ _ _ (by first | decide | exact hKb.out) (by decide) HM.out HA.out HB.out HN.out (by repeat (first | exact Gr.refl _ | refine Gr.alloc ?_ _ | refine Gr.ext ?_ _ | refine Gr.drew ?_ | refine Gr.setCell ?_ (by simp) _)))
    have e22 : ((K : Int) == 22) = false := by rw [beq_eq_false_iff_ne]; omega
    by_cases k25 : K = 25
    · subst k25
      go_wp2_with (go_at_call 215; first | ((with_reducible refine (W70.out _).mono ?_); rintro _ _ ⟨N2, rfl, hN2, rfl⟩) | ((with_reducible refine (W50.out _).mono ?_); rintro _ _ ⟨N2, rfl, hN2, rfl⟩))
      exact bodyPost_ret (v := .agg #[.int .u8 (25 : Nat), .int .i64 32, .int .u8 M, .bool ch, .int .u64 (bits .and .u64 A 4294967295), .int .u64 B, .int .i64 N2]) (by simp [results, Tryz.results177, go_sem, ↓IntWalk.iteOmega]) rfl (fin.out 25 32 _ _ _ _ _ (by first | decide | exact hKb.out) (by decide) HM.out (bits_in _ _ _) HB.out hN2 (by repeat (first | exact Gr.refl _ | refine Gr.alloc ?_ _ | refine Gr.ext ?_ _ | refine Gr.drew ?_ | refine Gr.setCell ?_ (by simp) _)))
    have e25 : ((K : Int) == 25) = false := by rw [beq_eq_false_iff_ne]; omega
    by_cases k3 : K = 3
    · subst k3
      go_wp2_with (go_at_call 215; first | ((with_reducible refine (W70.out _).mono ?_); rintro _ _ ⟨N2, rfl, hN2, rfl⟩) | ((with_reducible refine (W50.out _).mono ?_); rintro _ _ ⟨N2, rfl, hN2, rfl⟩))
      exact bodyPost_ret (v := .agg #[.int .u8 (3 : Nat), .int .i64 32, .int .u8 M, .bool ch, .int .u64 (bits .and .u64 A 4294967295), .int .u64 (bits .and .u64 B 4294967295), .int .i64 N2]) (by simp [results, Tryz.results177, go_sem, ↓IntWalk.iteOmega]) rfl (fin.out 3 32 _ _ _ _ _ (by first | decide | exact hKb.out) (by decide) HM.out (bits_in _ _ _) (bits_in _ _ _) hN2 (by repeat (first | exact Gr.refl _ | refine Gr.alloc ?_ _ | refine Gr.ext ?_ _ | refine Gr.drew ?_ | refine Gr.setCell ?_ (by simp) _)))
    have e3 : ((K : Int) == 3) = false := by rw [beq_eq_false_iff_ne]; omega
    by_cases k12 : K = 12
    · subst k12
      go_wp2_with (go_at_call 215; first | ((with_reducible refine (W70.out _).mono ?_); rintro _ _ ⟨N2, rfl, hN2, rfl⟩) | ((with_reducible refine (W50.out _).mono ?_); rintro _ _ ⟨N2, rfl, hN2, rfl⟩))
      exact bodyPost_ret (v := .agg #[.int .u8 (12 : Nat), .int .i64 32, .int .u8 M, .bool ch, .int .u64 (bits .and .u64 A 4294967295), .int .u64 (bits .and .u64 B 4294967295), .int .i64 N2]) (by simp [results, Tryz.results177, go_sem, ↓IntWalk.iteOmega]) rfl (fin.out 12 32 _ _ _ _ _ (by first | decide | exact hKb.out) (by decide) HM.out (bits_in _ _ _) (bits_in _ _ _) hN2 (by repeat (first | exact Gr.refl _ | refine Gr.alloc ?_ _ | refine Gr.ext ?_ _ | refine Gr.drew ?_ | refine Gr.setCell ?_ (by simp) _)))
    have e12 : ((K : Int) == 12) = false := by rw [beq_eq_false_iff_ne]; omega
    have f25 : ((K : Int) != 25) = true := by simp; omega
    go_wp2_with (go_at_call 215; first | ((with_reducible refine (W70.out _).mono ?_); rintro _ _ ⟨N2, rfl, hN2, rfl⟩) | ((with_reducible refine (W50.out _).mono ?_); rintro _ _ ⟨N2, rfl, hN2, rfl⟩))
    exact bodyPost_ret (v := .agg #[.int .u8 (K : Nat), .int .i64 32, .int .u8 M, .bool ch, .int .u64 (bits .and .u64 A 4294967295), .int .u64 (bits .and .u64 B 4294967295), .int .i64 N]) (by simp [results, Tryz.results177, go_sem, ↓IntWalk.iteOmega]) rfl (fin.out K 32 _ _ _ _ _ (by first | decide | exact hKb.out) (by decide) HM.out (bits_in _ _ _) (bits_in _ _ _) HN.out (by repeat (first | exact Gr.refl _ | refine Gr.alloc ?_ _ | refine Gr.ext ?_ _ | refine Gr.drew ?_ | refine Gr.setCell ?_ (by simp) _)))
end Go.Proofs.Qxb6500680aGreatDoor
