import Derived.Test.Qxb6500679aBest
namespace Go.Proofs.Qxb6500679a
open Go.RowKit Go.BigFrame
set_option linter.unusedSimpArgs false
attribute [local go_sem] ext_cell_if ext_frozen_if alloc_cell_if alloc_frozen_if ext_size ext_ext
theorem costFrom_snoc (s : Nat) (ps : Nat → Nat) (l : List Nat) (j : Nat) (h : j < l.length) :
    costFrom s ps 0 (l.take (j + 1)) = costFrom s ps 0 (l.take j) + ((if j % s = 0 then 6 else 0) + rl l[j] (ps (j / s))) := by
  rw [take_snoc l j h, costFrom_append]
  have : 0 + (l.take j).length = j := by simp; omega
  rw [this]
  simp [costFrom]
theorem costFrom_le (s : Nat) (ps : Nat → Nat) (hp : ∀ i, ps i ≤ 40) (l : List Nat) : ∀ i, costFrom s ps i l ≤ 102 * l.length := by
  induction l with
  | nil => intro i; simp [costFrom]
  | cons v t ih =>
    intro i
    have h1 := ih (i + 1)
    have h2 := rl_le v (ps (i / s)) (hp _)
    simp only [costFrom, List.length_cons]
    split <;> omega
set_option maxHeartbeats 1000000 in
theorem costOf_any (a : Option Addr) (b o c : Nat) (l : List Nat) (w : World) (ha : l ≠ [] → a = some ⟨b, o, none⟩) (hl : Row64 w b o l) (hn : l.length ≤ 5000) (r : Nat) (hr : r ≤ 7)
    (pa : Option Addr) (pb po pc : Nat) (ps : List Nat) (hpa : ps ≠ [] → pa = some ⟨pb, po, none⟩) (hps : ∀ j (h : j < ps.length), w.cell? ⟨pb, po + j, none⟩ = some (.int .i64 (ps[j] : Nat))) (h40 : ∀ p ∈ ps, p ≤ 40)
    (hcov : ∀ j, j < l.length → j / plen l.length r < ps.length) (hpl : ps.length ≤ 5000) :
    Calls Try.prog 19 #[.slice a l.length c, .int .i64 r, .slice pa ps.length pc] w fun e w' => e = .returned (.int .i64 (costFrom (plen l.length r) (fun i => ps.getD i 0) 0 l)) ∧ w' = w := by
  have HL := hidden hl
  have HP := hidden hps
  have H4 := hidden h40
  have HC := hidden hcov
  have HA := hidden ha
  have HPA := hidden hpa
  have HM := hidden (partLenM_any l.length r hn hr)
  have hs0 := plen_pos l.length r
  have hs1 : plen l.length r ≤ 5000 := by
    unfold plen
    have : (l.length + 2 ^ r - 1) / 2 ^ r ≤ l.length := by
      have hp : 0 < 2 ^ r := Nat.pow_pos (by decide)
      rcases Nat.eq_zero_or_pos l.length with h | h
      · rw [h, Nat.div_eq_of_lt (by omega)]; omega
      · apply Nat.le_of_lt_succ
        rw [Nat.div_lt_iff_lt_mul hp, Nat.succ_mul]
        have : l.length ≤ l.length * 2 ^ r := Nat.le_mul_of_pos_right _ hp
        omega
    omega
  generalize plen l.length r = s at *
  clear hl hps h40 hcov ha hpa
  have HB : Hid (∀ j, costFrom s (fun i => ps.getD i 0) 0 (l.take j) ≤ 510000) := by
    intro j
    have h1 := costFrom_le s (fun i => ps.getD i 0) (fun i => by
      simp only [List.getD_eq_getElem?_getD]
      rcases Nat.lt_or_ge i ps.length with h | h
      · rw [List.getElem?_eq_getElem h]; exact H4.out _ (List.getElem_mem h)
      · rw [List.getElem?_eq_none h]; simp) (l.take j) 0
    have h2 : (l.take j).length ≤ 5000 := by simp; omega
    omega
  go_enter Try.func19, Try.ntmps19
  go_wp2_with (go_at_call 30; refine (HM.out _).mono ?_; rintro e w' ⟨rfl, rfl⟩)
  go_loop [8, 17] (fun t i => ∃ j : Nat, j ≤ l.length ∧ t = .int .i64 (costFrom s (fun i => ps.getD i 0) 0 (l.take j)) ∧ i = .int .i64 j) (fun _ i => l.length - (intOf i).toNat)
  case atStart => exact ⟨0, by omega, rfl, rfl⟩
  case round =>
    obtain ⟨j, hj, rfl, rfl⟩ := hrel
    by_cases h : j < l.length
    · have c1 := HL.out.2 j h
      have c2 := HL.out.1 l[j] (List.getElem_mem h)
      have c3 := HC.out j h
      have c4 := HP.out (j / s) c3
      have c5 := H4.out ps[j / s] (List.getElem_mem c3)
      have e1 := HA.out (by intro e; rw [e] at h; simp at h)
      have e2 := HPA.out (by intro e; rw [e] at c3; simp at c3)
      have HS := hidden (costFrom_snoc s (fun i => ps.getD i 0) l j h)
      have HG : (ps.getD (j / s) 0) = ps[j / s] := by simp [List.getD_eq_getElem?_getD, c3]
      simp only [HG] at HS
      have hB := HB.out j
      subst e1 e2
      obtain ⟨v, hv⟩ : ∃ v, l[j] = v := ⟨_, rfl⟩
      obtain ⟨p, hp⟩ : ∃ p, ps[j / s] = p := ⟨_, rfl⟩
      rw [hv] at c1 c2 HS
      rw [hp] at c4 c5 HS
      have c6 := rl_le v p c5
      have HR := hidden (fun w => riceLen_any v p c2 c5 w)
      generalize costFrom s (fun i => ps.getD i 0) 0 (l.take j) = T at *
      clear hv hp HG
      have d1 : ((j : Int) / (s : Int)) = ((j / s : Nat) : Int) := by simp
      have d2 : ((j : Int) % (s : Int)) = ((j % s : Nat) : Int) := by simp
      obtain ⟨q, hq⟩ : ∃ q, j / s = q := ⟨_, rfl⟩
      obtain ⟨m, hm⟩ : ∃ m, j % s = m := ⟨_, rfl⟩
      rw [hq] at d1 c4 c3
      rw [hm] at d2 HS
      clear hq hm
      by_cases hz : m = 0
      · subst hz
        go_wp2_with (go_at_call 31; refine (HR.out _).mono ?_; rintro e w' ⟨rfl, rfl⟩)
        go_round
        case rel => exact ⟨j + 1, by omega, by rw [HS.out]; simp; omega, by go_num⟩
        case measure => simp [intOf]; omega
      · have hz' : decide (m = 0) = false := by simp; omega
        go_wp2_with (go_at_call 31; refine (HR.out _).mono ?_; rintro e w' ⟨rfl, rfl⟩)
        go_round
        case rel => exact ⟨j + 1, by omega, by rw [HS.out, if_neg hz]; simp, by go_num⟩
        case measure => simp [intOf]; omega
    · obtain rfl : j = l.length := by omega
      go_wp2
      go_ret
      exact ⟨rfl, rfl⟩
end Go.Proofs.Qxb6500679a
