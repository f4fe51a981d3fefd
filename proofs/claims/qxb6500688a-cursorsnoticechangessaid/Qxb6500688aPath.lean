import Derived.Test.Qxb6500688aCur
namespace Go.Proofs.Qxb6500688a
/-! PATHS, IN EITHER DIRECTION (d: true is forwards). -/
def T.kid (d : Bool) : T → T
  | .nil => .nil
  | .node _ l _ r => if d then r else l
def T.bak (d : Bool) : T → T
  | .nil => .nil
  | .node _ l _ r => if d then l else r
def pathD : Bool → T → Nat → List T
  | _, .nil, _ => []
  | true, .node b l g r, k => .node b l g r :: (if k < l.sz then pathD true l k else if k = l.sz then [] else pathD true r (k - l.sz - 1))
  | false, .node b l g r, k => .node b l g r :: (if k < r.sz then pathD false r k else if k = r.sz then [] else pathD false l (k - r.sz - 1))
theorem T.ind (d : Bool) {P : T → Prop} (h0 : P .nil) (h1 : ∀ t, t ≠ .nil → P (t.bak d) → P (t.kid d) → P t) : ∀ t, P t := by
  intro t
  induction t with
  | nil => exact h0
  | node b l g r ihl ihr =>
    refine h1 _ (by simp) ?_ ?_
    · cases d <;> simpa [T.bak]
    · cases d <;> simpa [T.kid]
theorem pathD_eq (d : Bool) {t : T} (ht : t ≠ .nil) (k : Nat) : pathD d t k = t :: (if k < (t.bak d).sz then pathD d (t.bak d) k else if k = (t.bak d).sz then [] else pathD d (t.kid d) (k - (t.bak d).sz - 1)) := by
  cases t with
  | nil => exact absurd rfl ht
  | node b l g r => cases d <;> simp [pathD, T.bak, T.kid]
theorem sz_bk (d : Bool) {t : T} (ht : t ≠ .nil) : t.sz = (t.bak d).sz + 1 + (t.kid d).sz := by
  cases t with
  | nil => exact absurd rfl ht
  | node b l g r => cases d <;> simp [T.sz, T.bak, T.kid] <;> omega
theorem sz_nil {t : T} (h : 0 < t.sz) : t ≠ .nil := by rintro rfl; simp [T.sz] at h
theorem nil_sz {t : T} (h : t ≠ .nil) : 0 < t.sz := by cases t with | nil => exact absurd rfl h | node b l g r => simp [T.sz]; omega
theorem pathD_cons (d : Bool) {t : T} (ht : t ≠ .nil) (k : Nat) : ∃ s, pathD d t k = t :: s := ⟨_, pathD_eq d ht k⟩
theorem pathD_lt (d : Bool) {t : T} (ht : t ≠ .nil) {k : Nat} (h : k < (t.bak d).sz) : pathD d t k = t :: pathD d (t.bak d) k := by rw [pathD_eq d ht, if_pos h]
theorem pathD_mid (d : Bool) {t : T} (ht : t ≠ .nil) : pathD d t (t.bak d).sz = [t] := by rw [pathD_eq d ht, if_neg (by omega), if_pos rfl]
theorem pathD_gt (d : Bool) {t : T} (ht : t ≠ .nil) (k : Nat) : pathD d t ((t.bak d).sz + 1 + k) = t :: pathD d (t.kid d) k := by
  rw [pathD_eq d ht, if_neg (by omega), if_neg (by omega), show (t.bak d).sz + 1 + k - (t.bak d).sz - 1 = k by omega]
theorem last_cons {t u : T} {s : List T} (hs : s ≠ []) (h : (t :: s).getLast? = some u) : s.getLast? = some u := by
  cases s with
  | nil => exact absurd rfl hs
  | cons a s => simpa [List.getLast?_cons_cons] using h
theorem path_down (d : Bool) (t : T) : ∀ k, k < t.sz → ∀ u, (pathD d t k).getLast? = some u → u.kid d ≠ .nil → k + 1 < t.sz ∧ pathD d t (k + 1) = pathD d t k ++ pathD d (u.kid d) 0 := by
  induction t using T.ind d with
  | h0 => intro k hk; simp [T.sz] at hk
  | h1 t ht ihb ihk =>
    intro k hk u hu hn
    have hsz := sz_bk d ht
    rcases Nat.lt_trichotomy k (t.bak d).sz with h | h | h
    · rw [pathD_lt d ht h] at hu ⊢
      obtain ⟨s, hs⟩ := pathD_cons d (sz_nil (t := t.bak d) (by omega)) k
      have hu' := last_cons (by rw [hs]; simp) hu
      obtain ⟨i1, i2⟩ := ihb k h u hu' hn
      exact ⟨by omega, by rw [pathD_lt d ht i1, i2]; simp⟩
    · subst h
      rw [pathD_mid d ht] at hu ⊢
      simp at hu
      subst hu
      have := nil_sz hn
      exact ⟨by omega, by rw [show (t.bak d).sz + 1 = (t.bak d).sz + 1 + 0 by omega, pathD_gt d ht]; simp⟩
    · obtain ⟨m, rfl⟩ : ∃ m, k = (t.bak d).sz + 1 + m := ⟨k - (t.bak d).sz - 1, by omega⟩
      rw [pathD_gt d ht] at hu ⊢
      obtain ⟨s, hs⟩ := pathD_cons d (sz_nil (t := t.kid d) (by omega)) m
      have hu' := last_cons (by rw [hs]; simp) hu
      obtain ⟨i1, i2⟩ := ihk m (by omega) u hu' hn
      exact ⟨by omega, by rw [show (t.bak d).sz + 1 + m + 1 = (t.bak d).sz + 1 + (m + 1) by omega, pathD_gt d ht, i2]; simp⟩
/-- At j the path goes down the back child. -/
def Bk (d : Bool) (L : List T) (j : Nat) : Prop := ∃ x y, L[j]? = some x ∧ L[j + 1]? = some y ∧ x.bak d = y
theorem Bk_cons {d : Bool} {t : T} {L : List T} {j : Nat} : Bk d (t :: L) (j + 1) ↔ Bk d L j := by simp [Bk]
theorem bak_ne_kid (d : Bool) {t : T} (ht : t ≠ .nil) (hn : t.blocks.Nodup) (hk : t.kid d ≠ .nil) : t.bak d ≠ t.kid d := by
  intro e
  cases t with
  | nil => exact ht rfl
  | node b l g r =>
    rw [T.blocks_node] at hn
    have e' : l = r := by cases d <;> simp [T.bak, T.kid] at e <;> first | exact e | exact e.symm
    subst e'
    have hl : l ≠ .nil := by cases d <;> simpa [T.kid] using hk
    cases l with
    | nil => exact hl rfl
    | node b' l' g' r' =>
      have := (List.nodup_append.1 hn).2.2 b' (by simp [T.blocks_node]) b' (by simp [T.blocks_node])
      exact this rfl
theorem nodup_bk (d : Bool) {t : T} (hn : t.blocks.Nodup) : (t.bak d).blocks.Nodup ∧ (t.kid d).blocks.Nodup := by
  cases t with
  | nil => simp [T.bak, T.kid, T.blocks, T.seq]
  | node b l g r =>
    rw [T.blocks_node, List.nodup_append, List.nodup_cons] at hn
    cases d <;> simp [T.bak, T.kid] <;> exact ⟨by first | exact hn.1 | exact hn.2.1.2, by first | exact hn.2.1.2 | exact hn.1⟩
theorem path_up (d : Bool) (t : T) : t.blocks.Nodup → ∀ k, k < t.sz → ∀ u, (pathD d t k).getLast? = some u → u.kid d = .nil →
    (∃ m, m + 1 < (pathD d t k).length ∧ k + 1 < t.sz ∧ pathD d t (k + 1) = (pathD d t k).take (m + 1) ∧ Bk d (pathD d t k) m ∧ ∀ j, m < j → j + 1 < (pathD d t k).length → ¬ Bk d (pathD d t k) j) ∨
    (k + 1 = t.sz ∧ ∀ j, j + 1 < (pathD d t k).length → ¬ Bk d (pathD d t k) j) := by
  induction t using T.ind d with
  | h0 => intro _ k hk; simp [T.sz] at hk
  | h1 t ht ihb ihk =>
    intro hn k hk u hu hl
    have hsz := sz_bk d ht
    obtain ⟨nb, nk⟩ := nodup_bk d hn
    rcases Nat.lt_trichotomy k (t.bak d).sz with h | h | h
    · rw [pathD_lt d ht h] at hu ⊢
      obtain ⟨s, hs⟩ := pathD_cons d (sz_nil (t := t.bak d) (by omega)) k
      have hu' := last_cons (by rw [hs]; simp) hu
      rcases ihb nb k h u hu' hl with ⟨m, m1, m2, m3, m4, m5⟩ | ⟨m1, m2⟩
      · refine .inl ⟨m + 1, by simp; omega, by omega, by rw [pathD_lt d ht m2, m3]; simp, Bk_cons.2 m4, fun j hj hj2 => ?_⟩
        obtain ⟨j, rfl⟩ : ∃ i, j = i + 1 := ⟨j - 1, by omega⟩
        exact fun e => m5 j (by omega) (by simp at hj2; omega) (Bk_cons.1 e)
      · refine .inl ⟨0, by rw [hs]; simp, by omega, by rw [m1, pathD_mid d ht]; simp, ⟨t, t.bak d, by simp, by rw [hs]; simp, rfl⟩, fun j hj hj2 => ?_⟩
        obtain ⟨j, rfl⟩ : ∃ i, j = i + 1 := ⟨j - 1, by omega⟩
        exact fun e => m2 j (by simp at hj2; omega) (Bk_cons.1 e)
    · subst h
      rw [pathD_mid d ht] at hu ⊢
      simp at hu
      subst hu
      refine .inr ⟨?_, fun j hj => by simp at hj⟩
      rw [hl] at hsz
      simp [T.sz] at hsz
      omega
    · obtain ⟨m', rfl⟩ : ∃ m, k = (t.bak d).sz + 1 + m := ⟨k - (t.bak d).sz - 1, by omega⟩
      rw [pathD_gt d ht] at hu ⊢
      have hkn : t.kid d ≠ .nil := sz_nil (by omega)
      obtain ⟨s, hs⟩ := pathD_cons d hkn m'
      have hu' := last_cons (by rw [hs]; simp) hu
      rcases ihk nk m' (by omega) u hu' hl with ⟨m, m1, m2, m3, m4, m5⟩ | ⟨m1, m2⟩
      · refine .inl ⟨m + 1, by simp; omega, by omega, by rw [show (t.bak d).sz + 1 + m' + 1 = (t.bak d).sz + 1 + (m' + 1) by omega, pathD_gt d ht, m3]; simp, Bk_cons.2 m4, fun j hj hj2 => ?_⟩
        obtain ⟨j, rfl⟩ : ∃ i, j = i + 1 := ⟨j - 1, by omega⟩
        exact fun e => m5 j (by omega) (by simp at hj2; omega) (Bk_cons.1 e)
      · refine .inr ⟨by omega, fun j hj => ?_⟩
        rcases j with _ | j
        · rintro ⟨x, y, h1, h2, h3⟩
          rw [hs] at h2
          simp at h1 h2
          rw [← h1, ← h2] at h3
          exact bak_ne_kid d ht hn hkn h3
        · exact fun e => m2 j (by simp at hj; omega) (Bk_cons.1 e)
theorem pathTo_eq (t : T) : ∀ i, pathTo t i = pathD true t i := by
  induction t with
  | nil => intro i; simp [pathTo, pathD]
  | node b l g r ihl ihr => intro i; simp only [pathTo, pathD, ihl, ihr]
theorem pathD_flip (t : T) : ∀ i, i < t.sz → pathD true t i = pathD false t (t.sz - 1 - i) := by
  induction t with
  | nil => intro i hi; simp [T.sz] at hi
  | node b l g r ihl ihr =>
    intro i hi
    obtain ⟨q, hq⟩ : ∃ q, (T.node b l g r).sz - 1 - i = q := ⟨_, rfl⟩
    rw [hq]
    simp only [T.sz] at hi hq
    simp only [pathD]
    congr 1
    rcases Nat.lt_trichotomy i l.sz with h | h | h
    · rw [if_pos h, if_neg (by omega), if_neg (by omega), ihl i h, show q - r.sz - 1 = l.sz - 1 - i by omega]
    · rw [if_neg (by omega), if_pos h, if_neg (by omega), if_pos (by omega)]
    · rw [if_neg (by omega), if_neg (by omega), if_pos (by omega), ihr _ (by omega), show r.sz - 1 - (i - l.sz - 1) = q by omega]
/-- Who stands on the path. -/
theorem path_mem (d : Bool) (t : T) : ∀ k x, x ∈ pathD d t k → x ≠ .nil ∧ ∀ w, t.Rep w → x.Rep w := by
  induction t using T.ind d with
  | h0 => intro k x hx; simp [pathD] at hx
  | h1 t ht ihb ihk =>
    intro k x hx
    have hrep : ∀ w, t.Rep w → (t.bak d).Rep w ∧ (t.kid d).Rep w := fun w h => by
      cases t with
      | nil => exact absurd rfl ht
      | node b l g r => cases d <;> simp [T.bak, T.kid] <;> exact ⟨by first | exact h.2.1 | exact h.2.2, by first | exact h.2.2 | exact h.2.1⟩
    rw [pathD_eq d ht] at hx
    rcases List.mem_cons.1 hx with rfl | hx
    · exact ⟨ht, fun w h => h⟩
    · split at hx
      · obtain ⟨h1, h2⟩ := ihb k x hx
        exact ⟨h1, fun w h => h2 w (hrep w h).1⟩
      · split at hx
        · cases hx
        · obtain ⟨h1, h2⟩ := ihk _ x hx
          exact ⟨h1, fun w h => h2 w (hrep w h).2⟩
end Go.Proofs.Qxb6500688a
