import Derived.Test.Qxb6500679aRows
import Derived.Test.Qxb6500679aLeaf
import Derived.Test.Qxb6500679aLen
import Derived.Laws.BitsAllLaws
import Derived.Lib.ItoaNum
namespace Go.Proofs.Qxb6500679a
open Go.RowKit Go.BigFrame
set_option linter.unusedSimpArgs false
attribute [local go_sem] ext_cell_if ext_frozen_if alloc_cell_if alloc_frozen_if ext_size ext_ext
/-- The cells from o on hold the numbers of l. -/
def Row64 (w : World) (b o : Nat) (l : List Nat) : Prop := (∀ v ∈ l, v < 18446744073709551616) ∧ ∀ j (h : j < l.length), w.cell? ⟨b, o + j, none⟩ = some (.int .u64 (l[j] : Nat))
theorem bitLen_up (A : Nat) (h : A < 18446744073709551616) : A < 2 ^ Lib.bitLen A ∧ Lib.bitLen A ≤ 64 := by
  refine ⟨?_, Lib.bitLen_le A 64 (by decide) h⟩
  rcases Nat.eq_zero_or_pos A with rfl | h0
  · exact Nat.pow_pos (by decide)
  · exact (Lib.bitLenAux_bounds 64 A h (by omega)).2.2
theorem take_snoc (l : List Nat) (j : Nat) (h : j < l.length) : l.take (j + 1) = l.take j ++ [l[j]] := by rw [List.take_add_one, List.getElem?_eq_getElem h]; rfl
theorem bst_succ (f : Nat → Nat) (n : Nat) : bst f (n + 1) = if f (n + 1) < (bst f n).2 then (n + 1, f (n + 1)) else bst f n := rfl
set_option maxHeartbeats 1000000 in
theorem bestParam_any (b o c : Nat) (l : List Nat) (w : World) (hl : Row64 w b o l) (hn : l.length ≤ 5000) :
    Calls Try.prog 29 #[.slice (some ⟨b, o, none⟩) l.length c] w fun e w' => e = .returned (.tuple #[.int .i64 (bst (cst l) 40).1, .int .i64 (bst (cst l) 40).2]) ∧ w' = w := by
  have HL := hidden hl
  clear hl
  go_enter Try.func29, Try.ntmps29
  go_wp2
  go_loop [4, 13] (fun t i => ∃ A j : Nat, j ≤ l.length ∧ A < 18446744073709551616 ∧ Hid (∀ v ∈ l.take j, v ≤ A) ∧ t = .int .u64 A ∧ i = .int .i64 j) (fun _ i => l.length - (intOf i).toNat)
  case atStart => exact ⟨0, 0, by omega, by omega, (by intro v hv; simp at hv), rfl, rfl⟩
  case round =>
    obtain ⟨A, j, hj, hA, HA, rfl, rfl⟩ := hrel
    by_cases h : j < l.length
    · have c1 := HL.out.2 j h
      have c2 := HL.out.1 l[j] (List.getElem_mem h)
      obtain ⟨v, hv⟩ : ∃ v, l[j] = v := ⟨_, rfl⟩
      rw [hv] at c1 c2
      have c3 := u64_or_nat A v hA c2
      have hA' : A ||| v < 18446744073709551616 := Nat.or_lt_two_pow (n := 64) hA c2
      obtain ⟨A', hA2⟩ : ∃ A', A ||| v = A' := ⟨_, rfl⟩
      have HA' : Hid (∀ u ∈ l.take (j + 1), u ≤ A') := by
        intro u hu
        rw [take_snoc l j h, List.mem_append] at hu
        rw [← hA2]
        rcases hu with hu | hu
        · exact Nat.le_trans (HA.out u hu) Nat.left_le_or
        · simp at hu; rw [hu, hv]; exact Nat.right_le_or
      rw [hA2] at c3 hA'
      clear hA2 hv
      go_wp2
      go_round
      case rel => exact ⟨A', j + 1, by omega, by omega, HA', rfl, by go_num⟩
      case measure => simp [intOf]; omega
    · obtain rfl : j = l.length := by omega
      have HA2 : Hid (∀ v ∈ l, v ≤ A) := by have := HA.out; rw [List.take_length] at this; exact this
      obtain ⟨hb1, hb2⟩ := bitLen_up A hA
      obtain ⟨L, hL⟩ : ∃ L, Lib.bitLen A = L := ⟨_, rfl⟩
      have hlen : ∀ w, Calls Try.prog 32 #[.int .u64 A] w (fun e w' => e = .returned (.int .i64 L) ∧ w' = w) := fun w => by
        have := Go.Proofs.Try.bits_Len64 (A : Int) w (by omega) (by omega)
        rw [← hL]; simpa using this
      rw [hL] at hb1 hb2
      obtain ⟨N, hN⟩ : ∃ N, N = min (L - 1) 40 := ⟨_, rfl⟩
      have HC : Hid (bst (cst l) N = bst (cst l) 40) := bst_cut l N (by omega) (fun h1 v hv => Nat.lt_of_le_of_lt (HA2.out v hv) (Nat.lt_of_lt_of_le hb1 (Nat.pow_le_pow_right (by decide) (by omega))))
      clear hL hb1 HA HA2 hj h
      have hlen' := hidden hlen
      clear hlen
      go_wp2
      go_loop [2, 3, 7] (fun p q i => ∃ k : Nat, k ≤ N + 1 ∧ i = .int .i64 k ∧ (0 < k → p = .int .i64 (bst (cst l) (k - 1)).1 ∧ q = .int .i64 (bst (cst l) (k - 1)).2) ∧ (k = 0 → p = .int .i64 0 ∧ q = .int .i64 0)) (fun _ _ i => N + 1 - (intOf i).toNat)
      case atStart => exact ⟨0, by omega, rfl, by omega, fun _ => ⟨rfl, rfl⟩⟩
      case round =>
        obtain ⟨k, hk, rfl, hp, hq⟩ := hrel
        by_cases h : k ≤ N
        · have hd : decide ((k : Int) ≤ min (max ((L : Int) - 1) 0) 40) = true := by simp; omega
          go_wp2_with (go_at_call 32; refine (hlen'.out _).mono ?_; rintro r w' ⟨rfl, rfl⟩)
          have hN40 : N ≤ 40 := by omega
          clear hN
          go_loop [8, 32] (fun t i => ∃ j : Nat, j ≤ l.length ∧ t = .int .i64 (cst (l.take j) k) ∧ i = .int .i64 j) (fun _ i => l.length - (intOf i).toNat)
          case atStart => exact ⟨0, by omega, rfl, rfl⟩
          case round =>
            obtain ⟨j, hj, rfl, rfl⟩ := hrel
            by_cases h2 : j < l.length
            · have c1 := HL.out.2 j h2
              have c2 := HL.out.1 l[j] (List.getElem_mem h2)
              have HS : cst (l.take (j + 1)) k = cst (l.take j) k + rl l[j] k := by rw [take_snoc l j h2, cst_append]; simp [cst]
              have HS : Hid (cst (l.take (j + 1)) k = cst (l.take j) k + rl l[j] k) := HS
              have c3 := cst_le (l.take j) k (by omega)
              have c4 : (l.take j).length ≤ 5000 := by simp; omega
              have c5 : cst (l.take j) k ≤ 480000 := by omega
              obtain ⟨v, hv⟩ : ∃ v, l[j] = v := ⟨_, rfl⟩
              rw [hv] at c1 c2 HS
              have c6 := rl_le v k (by omega)
              have HR := fun w => riceLen_any v k c2 (by omega) w
              have HR := hidden HR
              generalize cst (l.take j) k = T at *
              clear c3 c4 hv
              go_wp2_with (go_at_call 31; refine (HR.out _).mono ?_; rintro r w' ⟨rfl, rfl⟩)
              go_round
              case rel => exact ⟨j + 1, by omega, by rw [HS.out]; go_num, by go_num⟩
              case measure => simp [intOf]; omega
            · obtain rfl : j = l.length := by omega
              have c3 := cst_le l k (by omega)
              have HT : Hid (cst (l.take l.length) k = cst l k) := by rw [List.take_length]; exact rfl
              rcases Nat.eq_zero_or_pos k with rfl | h0
              · go_wp2
                go_round
                case rel => exact ⟨1, by omega, rfl, fun _ => ⟨rfl, by rw [HT.out]; rfl⟩, by omega⟩
                case measure => simp [intOf]
              · obtain ⟨rfl, rfl⟩ := hp h0
                obtain ⟨k', rfl⟩ : ∃ k', k = k' + 1 := ⟨k - 1, by omega⟩
                have HB := hidden (bst_succ (cst l) k')
                have b1 := bst_val (cst l) k'
                have b2 := cst_le l (bst (cst l) k').1 (by omega)
                rw [b1.1] at b2
                rw [HT.out]
                simp only [Nat.add_sub_cancel]
                clear HT hp hq
                generalize hC : cst l (k' + 1) = C at *
                generalize hD : bst (cst l) k' = D at *
                obtain ⟨d1, d2⟩ := D
                simp only at b1 b2
                clear b1
                by_cases h5 : C < d2
                · go_wp2
                  go_round
                  case rel => exact ⟨k' + 2, by omega, by go_num, fun _ => (by rw [show k' + 2 - 1 = k' + 1 by omega, HB.out, if_pos h5]; exact ⟨rfl, rfl⟩), by omega⟩
                  case measure => simp [intOf]; omega
                · go_wp2
                  go_round
                  case rel => exact ⟨k' + 2, by omega, by go_num, fun _ => (by rw [show k' + 2 - 1 = k' + 1 by omega, HB.out, if_neg (by omega)]; exact ⟨rfl, rfl⟩), by omega⟩
                  case measure => simp [intOf]; omega
        · obtain rfl : k = N + 1 := by omega
          have hd : decide ((N : Int) + 1 ≤ min (max ((L : Int) - 1) 0) 40) = false := by simp; omega
          have hd2 : ¬ ((N : Int) + 1 ≤ min (max ((L : Int) - 1) 0) 40) := by omega
          obtain ⟨rfl, rfl⟩ := hp (by omega)
          clear hp hq hN
          go_wp2_with (go_at_call 32; refine (hlen'.out _).mono ?_; rintro r w' ⟨rfl, rfl⟩)
          go_ret2
          rw [← HC.out]
          exact ⟨rfl, rfl⟩
end Go.Proofs.Qxb6500679a
