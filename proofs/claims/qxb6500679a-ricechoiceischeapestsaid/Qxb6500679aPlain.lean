import Derived.WalkKit
namespace Go.Proofs.Qxb6500679a

/-! THE PLAIN LAW: Rice codes, stretches, the cheapest choice. No Go in sight. -/

/-- The length of the code of v at the parameter k. -/
def rl (v k : Nat) : Nat := if 32 ≤ v / 2 ^ k then 96 else v / 2 ^ k + 1 + k
/-- The cost of a stretch at the parameter k. -/
def cst (l : List Nat) (k : Nat) : Nat := (l.map fun v => rl v k).sum
/-- The first of the least values of f at 0 .. n, and that value. -/
def bst (f : Nat → Nat) : Nat → Nat × Nat
  | 0 => (0, f 0)
  | n + 1 => if f (n + 1) < (bst f n).2 then (n + 1, f (n + 1)) else bst f n

theorem rl_le (v k : Nat) (hk : k ≤ 40) : rl v k ≤ 96 := by unfold rl; split <;> omega
theorem cst_nil (k : Nat) : cst [] k = 0 := rfl
theorem cst_cons (v : Nat) (l : List Nat) (k : Nat) : cst (v :: l) k = rl v k + cst l k := by simp [cst]
theorem cst_append (a b : List Nat) (k : Nat) : cst (a ++ b) k = cst a k + cst b k := by simp [cst]
theorem cst_le (l : List Nat) (k : Nat) (hk : k ≤ 40) : cst l k ≤ 96 * l.length := by
  induction l with
  | nil => simp [cst]
  | cons v t ih => rw [cst_cons]; have := rl_le v k hk; simp; omega
theorem bst_val (f : Nat → Nat) (n : Nat) : f (bst f n).1 = (bst f n).2 ∧ (bst f n).1 ≤ n := by
  induction n with
  | zero => exact ⟨rfl, Nat.le_refl _⟩
  | succ n ih =>
    unfold bst
    split
    · exact ⟨rfl, Nat.le_refl _⟩
    · exact ⟨ih.1, by omega⟩
theorem bst_le (f : Nat → Nat) (n k : Nat) (hk : k ≤ n) : (bst f n).2 ≤ f k := by
  induction n with
  | zero => obtain rfl : k = 0 := by omega
            exact Nat.le_refl _
  | succ n ih =>
    unfold bst
    by_cases h : k = n + 1
    · subst h; split <;> simp_all
    · have := ih (by omega)
      split
      · simp only; omega
      · exact this
theorem bst_ext (f : Nat → Nat) (n m : Nat) (hnm : n ≤ m) (h : ∀ k, n < k → k ≤ m → ∃ j, j ≤ n ∧ f j ≤ f k) : bst f m = bst f n := by
  induction m with
  | zero => obtain rfl : n = 0 := by omega
            rfl
  | succ m ih =>
    by_cases e : n = m + 1
    · rw [e]
    · have ih' := ih (by omega) (fun k h1 h2 => h k h1 (by omega))
      obtain ⟨j, hj, hjf⟩ := h (m + 1) (by omega) (Nat.le_refl _)
      have := bst_le f n j hj
      rw [bst, ih', if_neg (by omega)]
theorem bst_congr (f g : Nat → Nat) (n : Nat) (h : ∀ k, k ≤ n → f k = g k) : bst f n = bst g n := by
  induction n with
  | zero => simp [bst, h 0 (Nat.le_refl _)]
  | succ n ih => rw [bst, bst, ih (fun k hk => h k (by omega)), h (n + 1) (Nat.le_refl _)]

/-- Beyond the bits of the greatest value nothing is won. -/
theorem rl_beyond (v n k : Nat) (hv : v < 2 ^ (n + 1)) (hk : n < k) : rl v n ≤ rl v k := by
  have h1 : v / 2 ^ n < 2 := by
    rw [Nat.div_lt_iff_lt_mul (Nat.pow_pos (by decide))]
    rw [Nat.pow_succ] at hv; omega
  have h2 : v / 2 ^ k = 0 := by
    apply Nat.div_eq_of_lt
    exact Nat.lt_of_lt_of_le hv (Nat.pow_le_pow_right (by decide) hk)
  unfold rl
  rw [h2, if_neg (by omega), if_neg (by omega)]
  omega
theorem cst_beyond (l : List Nat) (n k : Nat) (hl : ∀ v ∈ l, v < 2 ^ (n + 1)) (hk : n < k) : cst l n ≤ cst l k := by
  induction l with
  | nil => simp [cst]
  | cons v t ih =>
    rw [cst_cons, cst_cons]
    have := rl_beyond v n k (hl v List.mem_cons_self) hk
    have := ih (fun u hu => hl u (List.mem_cons_of_mem _ hu))
    omega
/-- bestParam's cut. -/
theorem bst_cut (l : List Nat) (n : Nat) (hn : n ≤ 40) (hl : n < 40 → ∀ v ∈ l, v < 2 ^ (n + 1)) : bst (cst l) n = bst (cst l) 40 := by
  by_cases h : n = 40
  · rw [h]
  · refine (bst_ext (cst l) n 40 hn fun k h1 h2 => ⟨n, Nat.le_refl _, cst_beyond l n k (hl (by omega)) h1⟩).symm

/-- The stretches of s values. -/
def chunks (s : Nat) : Nat → List Nat → List (List Nat)
  | 0, _ => []
  | f + 1, l => match l with
    | [] => []
    | v :: t => (v :: t).take s :: chunks s f ((v :: t).drop s)
def pars (s : Nat) (f : Nat) (l : List Nat) : List Nat := (chunks s f l).map fun c => (bst (cst c) 40).1
def btot (s : Nat) (f : Nat) (l : List Nat) : Nat := ((chunks s f l).map fun c => 6 + (bst (cst c) 40).2).sum
theorem chunks_nil (s f : Nat) : chunks s f [] = [] := by cases f <;> rfl
theorem chunks_fuel (s : Nat) (hs : 0 < s) : ∀ (f g : Nat) (l : List Nat), l.length ≤ f → l.length ≤ g → chunks s f l = chunks s g l := by
  intro f
  induction f with
  | zero => intro g l h1 _; obtain rfl : l = [] := List.eq_nil_of_length_eq_zero (by omega)
            rw [chunks_nil, chunks_nil]
  | succ f ih =>
    intro g l h1 h2
    cases l with
    | nil => rw [chunks_nil, chunks_nil]
    | cons v t =>
      cases g with
      | zero => simp at h2
      | succ g =>
        simp only [chunks]
        rw [ih g _ (by simp at h1 ⊢; omega) (by simp at h2 ⊢; omega)]
/-- One stretch more. -/
theorem chunks_step (s : Nat) (hs : 0 < s) (l : List Nat) (hl : l ≠ []) (f : Nat) (hf : l.length ≤ f) : chunks s f l = l.take s :: chunks s f (l.drop s) := by
  cases l with
  | nil => exact absurd rfl hl
  | cons v t =>
    cases f with
    | zero => simp at hf
    | succ f =>
      simp only [chunks]
      rw [chunks_fuel s hs f (f + 1) _ (by simp at hf ⊢; omega) (by simp at hf ⊢; omega)]
      rfl
theorem pars_step (s : Nat) (hs : 0 < s) (l : List Nat) (hl : l ≠ []) (f : Nat) (hf : l.length ≤ f) : pars s f l = (bst (cst (l.take s)) 40).1 :: pars s f (l.drop s) := by
  unfold pars; rw [chunks_step s hs l hl f hf]; rfl
theorem btot_step (s : Nat) (hs : 0 < s) (l : List Nat) (hl : l ≠ []) (f : Nat) (hf : l.length ≤ f) : btot s f l = (6 + (bst (cst (l.take s)) 40).2) + btot s f (l.drop s) := by
  unfold btot; rw [chunks_step s hs l hl f hf]; simp
theorem pars_nil (s f : Nat) : pars s f [] = [] := by unfold pars; rw [chunks_nil]; rfl
theorem btot_nil (s f : Nat) : btot s f [] = 0 := by unfold btot; rw [chunks_nil]; rfl
theorem pars_le (s f : Nat) (l : List Nat) : ∀ p ∈ pars s f l, p ≤ 40 := by
  intro p hp
  obtain ⟨c, _, rfl⟩ := List.mem_map.1 hp
  exact (bst_val (cst c) 40).2

/-- The cost as CostOf reckons it, from index i on. -/
def costFrom (s : Nat) (ps : Nat → Nat) : Nat → List Nat → Nat
  | _, [] => 0
  | i, v :: t => (if i % s = 0 then 6 else 0) + rl v (ps (i / s)) + costFrom s ps (i + 1) t
theorem costFrom_append (s : Nat) (ps : Nat → Nat) (i : Nat) (a b : List Nat) : costFrom s ps i (a ++ b) = costFrom s ps i a + costFrom s ps (i + a.length) b := by
  induction a generalizing i with
  | nil => simp [costFrom]
  | cons v t ih =>
    simp only [List.cons_append, costFrom, ih, List.length_cons]
    rw [show i + 1 + t.length = i + (t.length + 1) by omega]
    omega
/-- Inside a stretch, behind its head. -/
theorem costFrom_in (s : Nat) (hs : 0 < s) (ps : Nat → Nat) (j : Nat) (c : List Nat) : ∀ (r : Nat), 0 < r → r + c.length ≤ s → costFrom s ps (j * s + r) c = cst c (ps j) := by
  induction c with
  | nil => intro r _ _; simp [costFrom, cst]
  | cons v t ih =>
    intro r h1 h2
    simp only [List.length_cons] at h2
    have e1 : (j * s + r) % s = r := by rw [Nat.mul_comm, Nat.mul_add_mod]; exact Nat.mod_eq_of_lt (by omega)
    have e2 : (j * s + r) / s = j := by
      rw [Nat.mul_comm, Nat.mul_add_div hs, Nat.div_eq_of_lt (by omega), Nat.add_zero]
    simp only [costFrom, e1, e2, cst_cons]
    rw [if_neg (by omega), show j * s + r + 1 = j * s + (r + 1) by omega, ih (r + 1) (by omega) (by omega)]
    omega
theorem costFrom_chunk (s : Nat) (hs : 0 < s) (ps : Nat → Nat) (j : Nat) (c : List Nat) (hc : c ≠ []) (hl : c.length ≤ s) : costFrom s ps (j * s) c = 6 + cst c (ps j) := by
  cases c with
  | nil => exact absurd rfl hc
  | cons v t =>
    simp only [List.length_cons] at hl
    have e1 : (j * s) % s = 0 := Nat.mul_mod_left j s
    have e2 : (j * s) / s = j := Nat.mul_div_cancel j hs
    simp only [costFrom, e1, e2, cst_cons, if_true]
    rw [costFrom_in s hs ps j t 1 (by omega) (by omega)]
    omega
/-- CostOf at the chosen parameters. -/
theorem costFrom_pars (s : Nat) (hs : 0 < s) : ∀ (n : Nat) (l : List Nat) (j f : Nat) (ps : Nat → Nat), l.length ≤ n → l.length ≤ f → (∀ i, i < (pars s f l).length → ps (j + i) = (pars s f l).getD i 0) → costFrom s ps (j * s) l = btot s f l := by
  intro n
  induction n with
  | zero => intro l j f ps h1 _ _; obtain rfl : l = [] := List.eq_nil_of_length_eq_zero (by omega)
            simp [costFrom, btot_nil]
  | succ n ih =>
    intro l j f ps h1 h2 h3
    by_cases hl : l = []
    · subst hl; simp [costFrom, btot_nil]
    · have e : l = l.take s ++ l.drop s := (List.take_append_drop s l).symm
      have hpos : 0 < l.length := List.length_pos_iff.2 hl
      rw [btot_step s hs l hl f h2]
      rw [pars_step s hs l hl f h2] at h3
      have hp : ps j = (bst (cst (l.take s)) 40).1 := by simpa using h3 0 (by simp)
      have hne : l.take s ≠ [] := by
        intro h
        rw [List.take_eq_nil_iff] at h
        rcases h with h | h
        · omega
        · exact hl h
      rw [show costFrom s ps (j * s) l = costFrom s ps (j * s) (l.take s ++ l.drop s) by rw [← e]]
      rw [costFrom_append, costFrom_chunk s hs ps j _ hne (by simp; omega), hp, (bst_val (cst (l.take s)) 40).1]
      congr 1
      by_cases hd : l.drop s = []
      · rw [hd, btot_nil]; rfl
      · have hlen : (l.take s).length = s := by
          simp
          have := List.length_pos_iff.2 hd
          simp at this
          omega
        rw [hlen, show j * s + s = (j + 1) * s by rw [Nat.add_mul, Nat.one_mul]]
        refine ih (l.drop s) (j + 1) f ps (by simp; omega) (by simp; omega) (fun i hi => ?_)
        have := h3 (i + 1) (by simp; omega)
        rw [show j + 1 + i = j + (i + 1) by omega, this]
        simp

/-- The length of a stretch at the order o. -/
def plen (m o : Nat) : Nat := max ((m + 2 ^ o - 1) / 2 ^ o) 1
theorem plen_pos (m o : Nat) : 0 < plen m o := by unfold plen; omega
/-- It is the least s from 1 on with s * 2^o ≥ m. -/
theorem plen_le (m o : Nat) : m ≤ plen m o * 2 ^ o := by
  have hp : 0 < 2 ^ o := Nat.pow_pos (by decide)
  have h := Nat.div_add_mod (m + 2 ^ o - 1) (2 ^ o)
  have hm := Nat.mod_lt (m + 2 ^ o - 1) hp
  have h2 : (m + 2 ^ o - 1) / 2 ^ o ≤ plen m o := by unfold plen; omega
  have h3 := Nat.mul_le_mul_right (2 ^ o) h2
  have h4 : 2 ^ o * ((m + 2 ^ o - 1) / 2 ^ o) = (m + 2 ^ o - 1) / 2 ^ o * 2 ^ o := Nat.mul_comm _ _
  omega
theorem plen_least (m o s : Nat) (hs : 1 ≤ s) (h : s < plen m o) : s * 2 ^ o < m := by
  have hp : 0 < 2 ^ o := Nat.pow_pos (by decide)
  have h1 : s < (m + 2 ^ o - 1) / 2 ^ o := by unfold plen at h; omega
  have h2 : (s + 1) * 2 ^ o ≤ m + 2 ^ o - 1 := by
    have := (Nat.le_div_iff_mul_le hp).1 h1
    exact this
  rw [Nat.add_mul] at h2
  omega
theorem plen_mono (m o : Nat) : plen m (o + 1) ≤ plen m o := by
  have h := plen_le m o
  by_cases e : plen m o < plen m (o + 1)
  · have := plen_least m (o + 1) (plen m o) (plen_pos m o) e
    rw [Nat.pow_succ] at this
    have hp : 0 < 2 ^ o := Nat.pow_pos (by decide)
    have : plen m o * (2 ^ o * 2) = 2 * (plen m o * 2 ^ o) := by rw [← Nat.mul_assoc, Nat.mul_comm]
    omega
  · omega
theorem plen_stop (m o : Nat) (h : plen m (o + 1) = plen m o) : plen m o = 1 := by
  by_cases e : plen m o = 1
  · exact e
  · have h1 := plen_pos m o
    have h2 : plen m o - 1 < plen m (o + 1) := by omega
    have h3 := plen_least m (o + 1) (plen m o - 1) (by omega) h2
    have h4 := plen_le m o
    have h5 := plen_least m o (plen m o - 1) (by omega) (by omega)
    rw [Nat.pow_succ, ← Nat.mul_assoc] at h3
    have h6 : plen m o * 2 ^ o = (plen m o - 1) * 2 ^ o + 2 ^ o := by
      have : plen m o = (plen m o - 1) + 1 := by omega
      rw [this, Nat.add_mul]; simp
    have h7 : 2 ^ o ≤ (plen m o - 1) * 2 ^ o := Nat.le_mul_of_pos_left _ (by omega)
    have hp : 0 < 2 ^ o := Nat.pow_pos (by decide)
    -- (p-1)*2^o*2 < m ≤ p*2^o : so p - 1 < 1
    omega
theorem plen_one (m o k : Nat) (h : plen m o = 1) (hk : o ≤ k) : plen m k = 1 := by
  induction k with
  | zero => obtain rfl : o = 0 := by omega
            exact h
  | succ k ih =>
    by_cases e : o = k + 1
    · rw [← e]; exact h
    · have := ih (by omega)
      have h2 := plen_mono m k
      have h3 := plen_pos m (k + 1)
      omega
/-- The cost of the order o. -/
def ordCost (l : List Nat) (o : Nat) : Nat := btot (plen l.length o) l.length l
def ordPars (l : List Nat) (o : Nat) : List Nat := pars (plen l.length o) l.length l
/-- BestPartitioning's break loses nothing. -/
theorem ord_stop (l : List Nat) (o : Nat) (ho : o < 7) (h : plen l.length (o + 1) = plen l.length o) : bst (ordCost l) 7 = bst (ordCost l) o := by
  have h1 := plen_stop l.length o h
  refine bst_ext _ o 7 (by omega) (fun k hk _ => ⟨o, Nat.le_refl _, ?_⟩)
  unfold ordCost
  rw [h1, plen_one l.length o k h1 (by omega)]
  exact Nat.le_refl _
theorem btot_le (s : Nat) (hs : 0 < s) : ∀ (n : Nat) (l : List Nat) (f : Nat), l.length ≤ n → l.length ≤ f → btot s f l ≤ 102 * l.length := by
  intro n
  induction n with
  | zero => intro l f h1 _; obtain rfl : l = [] := List.eq_nil_of_length_eq_zero (by omega)
            simp [btot_nil]
  | succ n ih =>
    intro l f h1 h2
    by_cases hl : l = []
    · subst hl; simp [btot_nil]
    · have hpos : 0 < l.length := List.length_pos_iff.2 hl
      rw [btot_step s hs l hl f h2]
      have h3 := ih (l.drop s) f (by simp; omega) (by simp; omega)
      have h4 := bst_le (cst (l.take s)) 40 0 (by omega)
      have h5 := cst_le (l.take s) 0 (by omega)
      simp at h3 h5
      have h6 : min s l.length + (l.length - s) = l.length := by omega
      have h7 : 0 < min s l.length := by omega
      omega
end Go.Proofs.Qxb6500679a
