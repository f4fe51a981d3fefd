import Derived.Lib.ItoaNum
namespace Go.Proofs.Qxb6500680aGreatDoor
open Go.Lib (itoa decDigits decDigits_one decDigits_two)
/-! The plain law of the text form: no Go in sight. -/
/-- A hexadecimal digit as a byte. -/
def hxc (d : Nat) : UInt8 := if d < 10 then UInt8.ofNat (48 + d) else UInt8.ofNat (87 + d)
def hxs (v : Nat) : Nat → List UInt8
  | 0 => []
  | n + 1 => hxc (v / 2 ^ (4 * n) % 16) :: hxs v n
theorem hxs_len (v : Nat) : ∀ n, (hxs v n).length = n
  | 0 => rfl
  | n + 1 => by simp [hxs, hxs_len v n]
def hval (c : UInt8) : Option Nat := if 48 ≤ c.toNat ∧ c.toNat ≤ 57 then some (c.toNat - 48) else if 97 ≤ c.toNat ∧ c.toNat ≤ 102 then some (c.toNat - 87) else none
def hexF : List UInt8 → Nat → Option Nat
  | [], a => some a
  | c :: r, a => (hval c).bind fun d => hexF r (a * 16 + d)
/-- n hexadecimal digits. -/
def hexP (n : Nat) (t : List UInt8) : Option (Nat × List UInt8) := if t.length < n then none else (hexF (t.take n) 0).map fun v => (v, t.drop n)
theorem hval_hxc (d : Nat) (h : d < 16) : hval (hxc d) = some d := by
  rcases d with _|_|_|_|_|_|_|_|_|_|_|_|_|_|_|_|d
  all_goals first | omega | decide
theorem hxc_hval {c : UInt8} {d : Nat} (h : hval c = some d) : d < 16 ∧ hxc d = c := by
  unfold hval at h
  split at h
  · rename_i h1
    simp only [Option.some.injEq] at h
    subst h
    refine ⟨by omega, ?_⟩
    unfold hxc
    rw [if_pos (by omega), show 48 + (c.toNat - 48) = c.toNat by omega]
    simp
  · split at h
    · rename_i h0 h1
      simp only [Option.some.injEq] at h
      subst h
      refine ⟨by omega, ?_⟩
      unfold hxc
      rw [if_neg (by omega), show 87 + (c.toNat - 87) = c.toNat by omega]
      simp
    · cases h
theorem hexF_inv : ∀ (l : List UInt8) (a v : Nat), hexF l a = some v → hxs v l.length = l ∧ v / 2 ^ (4 * l.length) = a
  | [], a, v, h => by simp [hexF] at h; subst h; simp [hxs]
  | c :: r, a, v, h => by
    unfold hexF at h
    cases hc : hval c with
    | none => rw [hc] at h; simp at h
    | some d =>
      rw [hc] at h
      obtain ⟨hd, hcc⟩ := hxc_hval hc
      obtain ⟨h1, h2⟩ := hexF_inv r (a * 16 + d) v h
      have e : v / 2 ^ (4 * r.length) = a * 16 + d := h2
      constructor
      · simp only [List.length_cons, hxs]
        rw [e, show (a * 16 + d) % 16 = d by omega, hcc, h1]
      · rw [List.length_cons, show 4 * (r.length + 1) = 4 * r.length + 4 by omega, Nat.pow_add, ← Nat.div_div_eq_div_mul, e]
        omega
theorem hexF_hxs (v : Nat) : ∀ (n a : Nat), hexF (hxs v n) a = some (a * 2 ^ (4 * n) + v % 2 ^ (4 * n))
  | 0, a => by simp [hexF, hxs, Nat.mod_one]
  | n + 1, a => by
    unfold hxs hexF
    rw [hval_hxc _ (Nat.mod_lt _ (by decide)), Option.bind_some, hexF_hxs v n]
    congr 1
    rw [show 4 * (n + 1) = 4 * n + 4 by omega, Nat.pow_add, Nat.mod_mul]
    have e : (2 : Nat) ^ 4 = 16 := by decide
    rw [e, Nat.add_mul, Nat.mul_assoc, Nat.mul_comm 16]
    rw [Nat.mul_comm (v / 2 ^ (4 * n) % 16)]
    omega
theorem hexP_inv {n : Nat} {t : List UInt8} {v : Nat} {r : List UInt8} (h : hexP n t = some (v, r)) : t = hxs v n ++ r ∧ v < 2 ^ (4 * n) := by
  unfold hexP at h
  split at h
  · cases h
  · rename_i hl
    cases hf : hexF (t.take n) 0 with
    | none => rw [hf] at h; simp at h
    | some u =>
      rw [hf] at h
      simp at h
      obtain ⟨rfl, rfl⟩ := h
      have hln : (t.take n).length = n := by simp; omega
      obtain ⟨h1, h2⟩ := hexF_inv _ _ _ hf
      rw [hln] at h1 h2
      refine ⟨by rw [h1, List.take_append_drop], ?_⟩
      have hp : 0 < 2 ^ (4 * n) := Nat.pos_of_ne_zero (by simp)
      exact (Nat.div_eq_zero_iff_lt hp).1 h2
theorem hexP_hxs (v n : Nat) (r : List UInt8) (hv : v < 2 ^ (4 * n)) : hexP n (hxs v n ++ r) = some (v, r) := by
  unfold hexP
  have hl := hxs_len v n
  rw [if_neg (by simp [hl]), List.take_append_of_le_length (by omega), List.take_of_length_le (by omega), hexF_hxs]
  simp [Nat.mod_eq_of_lt hv, hl]
def isD (c : UInt8) : Bool := decide (48 ≤ c.toNat) && decide (c.toNat ≤ 57)
/-- At most k decimal digits. -/
def decL : Nat → List UInt8 → Nat → Nat × List UInt8
  | k + 1, c :: r, v => if isD c then decL k r (v * 10 + (c.toNat - 48)) else (v, c :: r)
  | _, t, v => (v, t)
def decP (t : List UInt8) : Option (Nat × List UInt8) :=
  if (decL 4 t 0).2.length = t.length ∨ ((decL 4 t 0).2.length + 1 < t.length ∧ t.head? = some 48) then none else some (decL 4 t 0)
/-- A decimal digit as a byte. -/
def dch (d : Nat) : UInt8 := UInt8.ofNat (48 + d)
theorem isD_dig (c : UInt8) : isD c = true ↔ ∃ d, d < 10 ∧ c = dch d := by
  unfold dch
  constructor
  · intro h
    simp [isD] at h
    refine ⟨c.toNat - 48, by omega, ?_⟩
    rw [show 48 + (c.toNat - 48) = c.toNat by omega]
    simp
  · rintro ⟨d, hd, rfl⟩
    simp [isD]
    omega
theorem dig_nat (d : Nat) (hd : d < 10) : (dch d).toNat - 48 = d := by simp [dch]; omega
theorem dec1 {v : Nat} (h : v < 10) : decDigits v = [dch v] := decDigits_one h
theorem dec2 {v : Nat} (h1 : 10 ≤ v) (h2 : v < 100) : decDigits v = [dch (v / 10), dch (v % 10)] := decDigits_two (by omega) h2
theorem dec3 {v : Nat} (h1 : 100 ≤ v) (h2 : v < 1000) : decDigits v = [dch (v / 100), dch (v / 10 % 10), dch (v % 10)] := by
  rw [decDigits, dif_neg (by omega), dec2 (by omega) (by omega), Nat.div_div_eq_div_mul]
  rfl
theorem dec4 {v : Nat} (h1 : 1000 ≤ v) (h2 : v < 10000) : decDigits v = [dch (v / 1000), dch (v / 100 % 10), dch (v / 10 % 10), dch (v % 10)] := by
  rw [decDigits, dif_neg (by omega), dec3 (by omega) (by omega), Nat.div_div_eq_div_mul, Nat.div_div_eq_div_mul]
  rfl
theorem dch48 (d : Nat) (hd : d < 10) : dch d = 48 ↔ d = 0 := by
  constructor
  · intro h
    have := congrArg UInt8.toNat h
    simp [dch] at this
    omega
  · rintro rfl; rfl
theorem decL_dig (k d : Nat) (hd : d < 10) (r : List UInt8) (v : Nat) : decL (k + 1) (dch d :: r) v = decL k r (v * 10 + d) := by
  have h : isD (dch d) = true := (isD_dig _).2 ⟨d, hd, rfl⟩
  simp only [decL, h, if_true, dig_nat d hd]
theorem decP_of {t : List UInt8} {v : Nat} (h : decL 4 t 0 = (v, [])) (h1 : t.length ≠ 0) (h2 : 1 < t.length → t.head? ≠ some 48) : decP t = some (v, []) := by
  unfold decP
  rw [h, if_neg]
  rintro (h3 | ⟨h3, h4⟩)
  · exact h1 h3.symm
  · exact h2 (by simpa using h3) h4
theorem decP_digits (v : Nat) (hv : v < 10000) : decP (decDigits v) = some (v, []) := by
  by_cases h1 : v < 10
  · rw [dec1 h1]
    exact decP_of (by rw [decL_dig _ _ h1]; simp [decL]) (by simp) (by simp)
  by_cases h2 : v < 100
  · rw [dec2 (by omega) h2]
    refine decP_of ?_ (by simp) (fun _ => ?_)
    · rw [decL_dig _ _ (by omega), decL_dig _ _ (by omega), show (0 * 10 + v / 10) * 10 + v % 10 = v by omega]; rfl
    · simp only [List.head?_cons, ne_eq, Option.some.injEq, dch48 _ (show v / 10 < 10 by omega)]; omega
  by_cases h3 : v < 1000
  · rw [dec3 (by omega) h3]
    refine decP_of ?_ (by simp) (fun _ => ?_)
    · rw [decL_dig _ _ (by omega), decL_dig _ _ (by omega), decL_dig _ _ (by omega), show ((0 * 10 + v / 100) * 10 + v / 10 % 10) * 10 + v % 10 = v by omega]; rfl
    · simp only [List.head?_cons, ne_eq, Option.some.injEq, dch48 _ (show v / 100 < 10 by omega)]; omega
  · rw [dec4 (by omega) hv]
    refine decP_of ?_ (by simp) (fun _ => ?_)
    · rw [decL_dig _ _ (by omega), decL_dig _ _ (by omega), decL_dig _ _ (by omega), decL_dig _ _ (by omega), show (((0 * 10 + v / 1000) * 10 + v / 100 % 10) * 10 + v / 10 % 10) * 10 + v % 10 = v by omega]; rfl
    · simp only [List.head?_cons, ne_eq, Option.some.injEq, dch48 _ (show v / 1000 < 10 by omega)]; omega
/-- What decL reads wholly, are digits. -/
theorem decL_nil : ∀ (k : Nat) (t : List UInt8) (v u : Nat), decL k t v = (u, []) → t.length ≤ k ∧ ∀ c ∈ t, isD c = true
  | 0, t, v, u, h => by
    simp [decL] at h
    simp [h.2]
  | k + 1, [], v, u, h => by simp
  | k + 1, c :: r, v, u, h => by
    unfold decL at h
    split at h
    · rename_i hc
      obtain ⟨h1, h2⟩ := decL_nil k r _ _ h
      refine ⟨by simp; omega, ?_⟩
      intro x hx
      rcases List.mem_cons.1 hx with rfl | hx
      · exact hc
      · exact h2 x hx
    · simp at h
theorem decP_inv {t : List UInt8} {v : Nat} (h : decP t = some (v, [])) : t = decDigits v ∧ v < 10000 := by
  unfold decP at h
  split at h
  · cases h
  rename_i hn
  have h4 : decL 4 t 0 = (v, []) := by simpa using h
  rw [h4] at hn
  obtain ⟨hl, hd⟩ := decL_nil _ _ _ _ h4
  rcases t with _ | ⟨c1, t⟩
  · simp at hn
  obtain ⟨d1, hd1, rfl⟩ := (isD_dig c1).1 (hd c1 (by simp))
  rcases t with _ | ⟨c2, t⟩
  · rw [decL_dig _ _ hd1] at h4
    simp [decL] at h4
    subst h4
    exact ⟨(dec1 hd1).symm, by omega⟩
  obtain ⟨d2, hd2, rfl⟩ := (isD_dig c2).1 (hd c2 (by simp))
  have z1 : d1 ≠ 0 := fun e => hn (.inr ⟨by simp, by subst e; rfl⟩)
  rcases t with _ | ⟨c3, t⟩
  · rw [decL_dig _ _ hd1, decL_dig _ _ hd2] at h4
    simp [decL] at h4
    subst h4
    refine ⟨?_, by omega⟩
    rw [dec2 (by omega) (by omega), show (d1 * 10 + d2) / 10 = d1 by omega, show (d1 * 10 + d2) % 10 = d2 by omega]
  obtain ⟨d3, hd3, rfl⟩ := (isD_dig c3).1 (hd c3 (by simp))
  rcases t with _ | ⟨c4, t⟩
  · rw [decL_dig _ _ hd1, decL_dig _ _ hd2, decL_dig _ _ hd3] at h4
    simp [decL] at h4
    subst h4
    refine ⟨?_, by omega⟩
    rw [dec3 (by omega) (by omega), show ((d1 * 10 + d2) * 10 + d3) / 100 = d1 by omega, show ((d1 * 10 + d2) * 10 + d3) / 10 % 10 = d2 by omega, show ((d1 * 10 + d2) * 10 + d3) % 10 = d3 by omega]
  obtain ⟨d4, hd4, rfl⟩ := (isD_dig c4).1 (hd c4 (by simp))
  rcases t with _ | ⟨c5, t⟩
  · rw [decL_dig _ _ hd1, decL_dig _ _ hd2, decL_dig _ _ hd3, decL_dig _ _ hd4] at h4
    simp [decL] at h4
    subst h4
    refine ⟨?_, by omega⟩
    rw [dec4 (by omega) (by omega), show (((d1 * 10 + d2) * 10 + d3) * 10 + d4) / 1000 = d1 by omega, show (((d1 * 10 + d2) * 10 + d3) * 10 + d4) / 100 % 10 = d2 by omega, show (((d1 * 10 + d2) * 10 + d3) * 10 + d4) / 10 % 10 = d3 by omega, show (((d1 * 10 + d2) * 10 + d3) * 10 + d4) % 10 = d4 by omega]
  · simp at hl
/-- The text goes on with l : what is behind it. -/
def strip : List UInt8 → List UInt8 → Option (List UInt8)
  | [], t => some t
  | c :: l, d :: t => if c = d then strip l t else none
  | _ :: _, [] => none
theorem strip_app : ∀ (l r : List UInt8), strip l (l ++ r) = some r
  | [], r => rfl
  | c :: l, r => by simp [strip, strip_app l r]
theorem strip_inv : ∀ (l t : List UInt8) {r : List UInt8}, strip l t = some r → t = l ++ r
  | [], t, r, h => by simp [strip] at h; simp [h]
  | c :: l, [], r, h => by simp [strip] at h
  | c :: l, d :: t, r, h => by
    unfold strip at h
    split at h
    · rename_i e; subst e; rw [strip_inv l t h]; rfl
    · cases h
/-- An exponent with its sign. -/
def expP (t : List UInt8) : Option (Int × List UInt8) :=
  match strip [43] t with
  | some r => (decP r).map fun x => ((x.1 : Int), x.2)
  | none => match strip [45] t with
    | some r => (decP r).bind fun x => if x.1 = 0 then none else some (-(x.1 : Int), x.2)
    | none => none
def expT (i : Int) : List UInt8 := (if 0 ≤ i then [43] else []) ++ itoa i
theorem itoa_pos (u : Nat) : itoa (u : Int) = decDigits u := by unfold itoa; rw [if_neg (by omega)]; simp
theorem itoa_min (u : Nat) (h : 1 ≤ u) : itoa (-(u : Int)) = 45 :: decDigits u := by unfold itoa; rw [if_pos (by omega)]; simp
theorem expP_T (i : Int) (h0 : -10000 < i) (h1 : i < 10000) : expP (expT i) = some (i, []) := by
  by_cases h : 0 ≤ i
  · obtain ⟨u, rfl⟩ := Int.eq_ofNat_of_zero_le h
    have e : expT (u : Int) = [43] ++ decDigits u := by unfold expT; rw [if_pos h, itoa_pos]
    unfold expP
    rw [e, strip_app]
    simp [decP_digits u (by omega)]
  · obtain ⟨u, rfl⟩ : ∃ u : Nat, i = -(u : Int) := ⟨i.natAbs, by omega⟩
    have e : expT (-(u : Int)) = [45] ++ decDigits u := by unfold expT; rw [if_neg h, itoa_min u (by omega)]; rfl
    unfold expP
    rw [e, show strip [43] ([45] ++ decDigits u) = none by simp [strip], strip_app]
    simp [decP_digits u (by omega)]
    omega
theorem expP_inv {t : List UInt8} {i : Int} (h : expP t = some (i, [])) : t = expT i := by
  unfold expP at h
  split at h
  · rename_i r hr
    have e := strip_inv _ _ hr
    cases hd : decP r with
    | none => rw [hd] at h; simp at h
    | some x =>
      obtain ⟨u, r'⟩ := x
      rw [hd] at h
      simp at h
      obtain ⟨rfl, rfl⟩ := h
      obtain ⟨h1, h2⟩ := decP_inv hd
      rw [e, h1]
      unfold expT
      rw [if_pos (by omega), itoa_pos]
  · split at h
    · rename_i r hr
      have e := strip_inv _ _ hr
      cases hd : decP r with
      | none => rw [hd] at h; simp at h
      | some x =>
        obtain ⟨u, r'⟩ := x
        rw [hd] at h
        simp at h
        obtain ⟨h0, rfl, rfl⟩ := h
        obtain ⟨h1, h2⟩ := decP_inv hd
        rw [e, h1]
        unfold expT
        rw [if_neg (by omega), itoa_min u (by omega)]
        rfl
    · cases h
/-- A format: F bits of fraction in H digits, PD of their bits unused; 2^E exponent fields, the bias BI. -/
structure Fx (E F H PD BI : Nat) : Prop where
  h4 : F + PD = 4 * H
  hE : 2 ^ E = 2 * BI + 2
  h1 : 1 ≤ BI
  h2 : BI < 5000
section
variable (E F H PD BI : Nat)
def body (M : Nat) : List UInt8 :=
  if M = 0 then [48, 120, 48, 112, 43, 48]
  else if M = (2 ^ E - 1) * 2 ^ F then [105, 110, 102]
  else if (2 ^ E - 1) * 2 ^ F < M then [110, 97, 110, 40, 48, 120] ++ (hxs (M % 2 ^ F) H ++ [41])
  else if M < 2 ^ F then [48, 120, 48, 46] ++ (hxs (M % 2 ^ F * 2 ^ PD) H ++ ([112] ++ expT (1 - (BI : Int))))
  else [48, 120, 49, 46] ++ (hxs (M % 2 ^ F * 2 ^ PD) H ++ ([112] ++ expT ((M / 2 ^ F : Nat) - (BI : Int))))
/-- The text of a pattern. -/
def txt (p : Nat) : List UInt8 := (if p / 2 ^ (E + F) % 2 = 1 then 45 else 43) :: body E F H PD BI (p % 2 ^ (E + F))
def nanP (t : List UInt8) : Option (Nat × List UInt8) :=
  (hexP H t).bind fun x => if x.1 = 0 ∨ 2 ^ F - 1 < x.1 then none else (strip [41] x.2).map fun r => ((2 ^ E - 1) * 2 ^ F + x.1, r)
def finQ (nrm : Bool) (t : List UInt8) : Option (Nat × List UInt8) :=
  (hexP H t).bind fun x => if x.1 % 2 ^ PD ≠ 0 then none else if nrm = false ∧ x.1 / 2 ^ PD = 0 then none else
    (strip [112] x.2).bind fun r => (expP r).bind fun y =>
      if nrm then (if y.1 < 1 - (BI : Int) ∨ (BI : Int) < y.1 then none else some ((y.1 + BI).toNat * 2 ^ F + x.1 / 2 ^ PD, y.2))
      else if y.1 ≠ 1 - (BI : Int) then none else some (x.1 / 2 ^ PD, y.2)
def finP (t : List UInt8) : Option (Nat × List UInt8) :=
  match strip [48, 46] t with
  | some r => finQ F H PD BI false r
  | none => match strip [49, 46] t with
    | some r => finQ F H PD BI true r
    | none => none
def magP (t : List UInt8) : Option (Nat × List UInt8) :=
  match strip [105, 110, 102] t with
  | some r => some ((2 ^ E - 1) * 2 ^ F, r)
  | none => match strip [110, 97, 110, 40, 48, 120] t with
    | some r => nanP E F H r
    | none => match strip [48, 120, 48, 112, 43, 48] t with
      | some r => some (0, r)
      | none => match strip [48, 120] t with
        | some r => finP F H PD BI r
        | none => none
def endP (neg : Bool) (t : List UInt8) : Option Nat :=
  (magP E F H PD BI t).bind fun x => if x.2 = [] then some (if neg then x.1 + 2 ^ (E + F) else x.1) else none
/-- The pattern of a text. -/
def parse (s : List UInt8) : Option Nat :=
  match strip [43] s with
  | some t => endP E F H PD BI false t
  | none => match strip [45] s with
    | some t => endP E F H PD BI true t
    | none => none
end
theorem st_inf (r : List UInt8) : strip [105, 110, 102] (48 :: r) = none := by simp [strip]
theorem st_nan (r : List UInt8) : strip [110, 97, 110, 40, 48, 120] (48 :: r) = none := by simp [strip]
theorem st_z0 (r : List UInt8) : strip [48, 120, 48, 112, 43, 48] (48 :: 120 :: 48 :: 46 :: r) = none := by simp [strip]
theorem st_z1 (r : List UInt8) : strip [48, 120, 48, 112, 43, 48] (48 :: 120 :: 49 :: 46 :: r) = none := by simp [strip]
theorem st_0x (r : List UInt8) : strip [48, 120] (48 :: 120 :: r) = some r := by simp [strip]
theorem st_00 (r : List UInt8) : strip [48, 46] (48 :: 46 :: r) = some r := by simp [strip]
theorem st_01 (r : List UInt8) : strip [48, 46] (49 :: 46 :: r) = none := by simp [strip]
theorem st_11 (r : List UInt8) : strip [49, 46] (49 :: 46 :: r) = some r := by simp [strip]
theorem st_p (r : List UInt8) : strip [112] (112 :: r) = some r := by simp [strip]
theorem st_pm (r : List UInt8) : strip [43] (45 :: r) = none := by simp [strip]
theorem st_pp (r : List UInt8) : strip [43] (43 :: r) = some r := by simp [strip]
theorem st_mm (r : List UInt8) : strip [45] (45 :: r) = some r := by simp [strip]
section
variable {E F H PD BI : Nat} (fx : Fx E F H PD BI)
include fx
theorem Fx.e1 : 2 ^ E - 1 = 2 * BI + 1 := by have := fx.hE; omega
theorem Fx.ef : 2 ^ (E + F) = (2 ^ E - 1) * 2 ^ F + 2 ^ F := by
  rw [fx.e1, Nat.pow_add, fx.hE, show 2 * BI + 2 = (2 * BI + 1) + 1 by omega, Nat.add_mul]; omega
theorem magP_body (M : Nat) (hM : M < 2 ^ (E + F)) : magP E F H PD BI (body E F H PD BI M) = some (M, []) := by
  have hF : 0 < 2 ^ F := Nat.pos_of_ne_zero (by simp)
  have hP : 0 < 2 ^ PD := Nat.pos_of_ne_zero (by simp)
  have hef := fx.ef
  have hd : 2 ^ (4 * H) = 2 ^ F * 2 ^ PD := by rw [← fx.h4, Nat.pow_add]
  have hm := Nat.mod_lt M hF
  have hdm := Nat.div_add_mod M (2 ^ F)
  unfold body
  split
  · rename_i h; subst h; simp [magP, strip]
  split
  · rename_i h; subst h; simp [magP, strip]
  split
  · rename_i h0 h1 h2
    have hb : M % 2 ^ F < 2 ^ (4 * H) := by rw [hd]; exact Nat.lt_of_lt_of_le hm (Nat.le_mul_of_pos_right _ hP)
    unfold magP
    rw [show strip [105, 110, 102] ([110, 97, 110, 40, 48, 120] ++ (hxs (M % 2 ^ F) H ++ [41])) = none by simp [strip], strip_app]
    simp only [nanP]
    rw [hexP_hxs _ _ _ hb]
    have e1 : M = (2 ^ E - 1) * 2 ^ F + M % 2 ^ F := by
      have h3 : M / 2 ^ F = 2 ^ E - 1 := by
        have a1 : M < (2 ^ E - 1 + 1) * 2 ^ F := by rw [Nat.add_mul]; omega
        have a2 := (Nat.le_div_iff_mul_le hF).2 (Nat.le_of_lt h2)
        have a3 := (Nat.div_lt_iff_lt_mul hF).2 a1
        omega
      rw [h3, Nat.mul_comm] at hdm
      exact hdm.symm
    have e2 : M % 2 ^ F ≠ 0 := by intro e; rw [e] at e1; omega
    rw [Option.bind_some, if_neg (by simp only []; omega)]
    have := strip_app [41] []
    simp only [List.append_nil] at this
    simp only [this, Option.map_some]
    rw [← e1]
  · rename_i h0 h1 h2
    have hb : M % 2 ^ F * 2 ^ PD < 2 ^ (4 * H) := by rw [hd]; exact Nat.mul_lt_mul_of_pos_right hm hP
    have z1 : M % 2 ^ F * 2 ^ PD % 2 ^ PD = 0 := Nat.mul_mod_left _ _
    have z2 : M % 2 ^ F * 2 ^ PD / 2 ^ PD = M % 2 ^ F := Nat.mul_div_cancel _ hP
    have b1 := fx.h1
    have b2 := fx.h2
    split
    · rename_i h3
      have e1 : M % 2 ^ F = M := Nat.mod_eq_of_lt h3
      simp only [List.cons_append, List.nil_append]
      unfold magP
      simp only [st_inf, st_nan, st_z0, st_0x]
      unfold finP
      simp only [st_00]
      unfold finQ
      rw [hexP_hxs _ _ _ hb, Option.bind_some]
      simp only [z1, z2, ne_eq, not_true_eq_false, if_false, st_p, Option.bind_some]
      rw [if_neg (by rw [e1]; simp; omega), expP_T _ (by omega) (by omega)]
      simp [e1]
    · rename_i h3
      have q1 : 1 ≤ M / 2 ^ F := (Nat.le_div_iff_mul_le hF).2 (by omega)
      have q2 : M / 2 ^ F < 2 ^ E - 1 := (Nat.div_lt_iff_lt_mul hF).2 (by omega)
      have e1 := fx.e1
      simp only [List.cons_append, List.nil_append]
      unfold magP
      simp only [st_inf, st_nan, st_z1, st_0x]
      unfold finP
      simp only [st_01, st_11]
      unfold finQ
      rw [hexP_hxs _ _ _ hb, Option.bind_some]
      simp only [z1, z2, ne_eq, not_true_eq_false, if_false, st_p, if_true, Option.bind_some]
      rw [if_neg (by simp), expP_T _ (by omega) (by omega)]
      simp only [Option.bind_some]
      rw [if_neg (by omega)]
      rw [show ((M / 2 ^ F : Nat) - (BI : Int) + BI).toNat = M / 2 ^ F by omega, Nat.mul_comm, hdm]
theorem parse_txt (p : Nat) (hp : p < 2 * 2 ^ (E + F)) : parse E F H PD BI (txt E F H PD BI p) = some p := by
  have hS : 0 < 2 ^ (E + F) := Nat.pos_of_ne_zero (by simp)
  have hm := magP_body fx (p % 2 ^ (E + F)) (Nat.mod_lt _ hS)
  have hdm := Nat.div_add_mod p (2 ^ (E + F))
  have hq : p / 2 ^ (E + F) < 2 := (Nat.div_lt_iff_lt_mul hS).2 hp
  unfold txt
  split
  · rename_i h
    have e : p / 2 ^ (E + F) = 1 := by generalize p / 2 ^ (E + F) = q at h hq; omega
    rw [e] at hdm
    simp only [parse, st_pm, st_mm, if_true, endP, hm, Option.bind_some]
    congr 1
    omega
  · rename_i h
    have e : p / 2 ^ (E + F) = 0 := by generalize p / 2 ^ (E + F) = q at h hq; omega
    rw [e] at hdm
    simp only [parse, st_pp, if_true, endP, hm, Option.bind_some]
    congr 1
    simp
    omega
theorem body_magP {t : List UInt8} {M : Nat} (h : magP E F H PD BI t = some (M, [])) : M < 2 ^ (E + F) ∧ t = body E F H PD BI M := by
  have hF : 0 < 2 ^ F := Nat.pos_of_ne_zero (by simp)
  have hP : 0 < 2 ^ PD := Nat.pos_of_ne_zero (by simp)
  have hef := fx.ef
  have e1 := fx.e1
  have b1 := fx.h1
  have hd : 2 ^ (4 * H) = 2 ^ F * 2 ^ PD := by rw [← fx.h4, Nat.pow_add]
  have hEM : 0 < (2 ^ E - 1) * 2 ^ F := Nat.mul_pos (by omega) hF
  unfold magP at h
  split at h
  · rename_i r hr
    simp at h
    obtain ⟨rfl, rfl⟩ := h
    refine ⟨by omega, ?_⟩
    rw [strip_inv _ _ hr]
    unfold body
    rw [if_neg (by omega), if_pos rfl]
    rfl
  split at h
  · rename_i r hr
    unfold nanP at h
    cases hx : hexP H r with
    | none => rw [hx] at h; simp at h
    | some x =>
      obtain ⟨v, r'⟩ := x
      rw [hx, Option.bind_some] at h
      split at h
      · cases h
      rename_i hv
      simp only [not_or] at hv
      cases hy : strip [41] r' with
      | none => simp [hy] at h
      | some r'' =>
        simp [hy] at h
        obtain ⟨h1, rfl⟩ := h
        obtain ⟨a1, a2⟩ := hexP_inv hx
        have a3 := strip_inv _ _ hy
        have m1 : M % 2 ^ F = v := by rw [← h1, Nat.mul_comm, Nat.mul_add_mod, Nat.mod_eq_of_lt (by omega)]
        refine ⟨by omega, ?_⟩
        rw [strip_inv _ _ hr, a1, a3]
        unfold body
        rw [if_neg (by omega), if_neg (by omega), if_pos (by omega), m1]
        simp
  split at h
  · rename_i r hr
    simp at h
    obtain ⟨rfl, rfl⟩ := h
    refine ⟨by omega, ?_⟩
    rw [strip_inv _ _ hr]
    rfl
  split at h
  · rename_i r hr
    have t0 := strip_inv _ _ hr
    unfold finP at h
    split at h
    · rename_i r1 hr1
      have t1 := strip_inv _ _ hr1
      unfold finQ at h
      cases hx : hexP H r1 with
      | none => rw [hx] at h; simp at h
      | some x =>
        obtain ⟨v, r2⟩ := x
        obtain ⟨a1, a2⟩ := hexP_inv hx
        rw [hx, Option.bind_some] at h
        split at h
        · cases h
        rename_i z1
        split at h
        · cases h
        rename_i z2
        cases hy : strip [112] r2 with
        | none => simp [hy] at h
        | some r3 =>
          have t2 := strip_inv _ _ hy
          rw [hy, Option.bind_some] at h
          cases hz : expP r3 with
          | none => rw [hz] at h; simp at h
          | some y =>
            obtain ⟨i, r4⟩ := y
            rw [hz] at h
            simp at h
            obtain ⟨rfl, h2, rfl⟩ := h
            have t3 := expP_inv hz
            simp at z1
            have a4 : v / 2 ^ PD * 2 ^ PD = v := Nat.div_mul_cancel (Nat.dvd_of_mod_eq_zero z1)
            have a3 : M < 2 ^ F := by rw [← h2]; exact (Nat.div_lt_iff_lt_mul hP).2 (by omega)
            have a5 : M % 2 ^ F = M := Nat.mod_eq_of_lt a3
            have a6 : M ≠ 0 := by rw [← h2]; exact fun e => z2 ⟨rfl, e⟩
            have a7 : 2 ^ F ≤ (2 ^ E - 1) * 2 ^ F := Nat.le_mul_of_pos_left _ (by omega)
            refine ⟨by omega, ?_⟩
            rw [t0, t1, a1, t2, t3]
            unfold body
            rw [if_neg a6, if_neg (by omega), if_neg (by omega), if_pos a3, a5, ← h2, a4]
            simp
    split at h
    · rename_i r1 hr1
      have t1 := strip_inv _ _ hr1
      unfold finQ at h
      cases hx : hexP H r1 with
      | none => rw [hx] at h; simp at h
      | some x =>
        obtain ⟨v, r2⟩ := x
        obtain ⟨a1, a2⟩ := hexP_inv hx
        rw [hx, Option.bind_some] at h
        split at h
        · cases h
        rename_i z1
        split at h
        · cases h
        rename_i z2
        cases hy : strip [112] r2 with
        | none => simp [hy] at h
        | some r3 =>
          have t2 := strip_inv _ _ hy
          rw [hy, Option.bind_some] at h
          cases hz : expP r3 with
          | none => rw [hz] at h; simp at h
          | some y =>
            obtain ⟨i, r4⟩ := y
            rw [hz] at h
            simp only [Option.bind_some, if_true] at h
            split at h
            · cases h
            rename_i z3
            simp at h
            obtain ⟨h2, rfl⟩ := h
            have t3 := expP_inv hz
            simp at z1 z3
            have a4 : v / 2 ^ PD * 2 ^ PD = v := Nat.div_mul_cancel (Nat.dvd_of_mod_eq_zero z1)
            have a3 : v / 2 ^ PD < 2 ^ F := (Nat.div_lt_iff_lt_mul hP).2 (by omega)
            obtain ⟨q, hq⟩ : ∃ q : Nat, i + BI = q := ⟨(i + BI).toNat, by omega⟩
            have hq1 : 1 ≤ q := by omega
            have hq2 : q < 2 ^ E - 1 := by omega
            rw [hq, Int.toNat_natCast] at h2
            have m1 : M % 2 ^ F = v / 2 ^ PD := by rw [← h2, Nat.mul_comm, Nat.mul_add_mod, Nat.mod_eq_of_lt a3]
            have m2 : M / 2 ^ F = q := by rw [← h2, Nat.mul_comm, Nat.mul_add_div hF, Nat.div_eq_of_lt a3]; rfl
            have m3 : 2 ^ F ≤ q * 2 ^ F := Nat.le_mul_of_pos_left _ hq1
            have m4 : q * 2 ^ F + 2 ^ F ≤ (2 ^ E - 1) * 2 ^ F := by rw [← Nat.succ_mul]; exact Nat.mul_le_mul_right _ hq2
            refine ⟨by omega, ?_⟩
            rw [t0, t1, a1, t2, t3]
            unfold body
            rw [if_neg (by omega), if_neg (by omega), if_neg (by omega), if_neg (by omega), m1, m2, a4, show ((q : Nat) : Int) - (BI : Int) = i by omega]
            simp
    · cases h
  · cases h
theorem txt_parse {s : List UInt8} {q : Nat} (h : parse E F H PD BI s = some q) : q < 2 * 2 ^ (E + F) ∧ txt E F H PD BI q = s := by
  have hS : 0 < 2 ^ (E + F) := Nat.pos_of_ne_zero (by simp)
  unfold parse at h
  split at h
  · rename_i t ht
    unfold endP at h
    cases hx : magP E F H PD BI t with
    | none => rw [hx] at h; simp at h
    | some x =>
      obtain ⟨M, r⟩ := x
      rw [hx] at h
      simp at h
      obtain ⟨rfl, rfl⟩ := h
      obtain ⟨h1, h2⟩ := body_magP fx hx
      refine ⟨by omega, ?_⟩
      rw [strip_inv _ _ ht, h2]
      unfold txt
      rw [Nat.div_eq_of_lt h1, Nat.mod_eq_of_lt h1]
      rfl
  split at h
  · rename_i t ht
    unfold endP at h
    cases hx : magP E F H PD BI t with
    | none => rw [hx] at h; simp at h
    | some x =>
      obtain ⟨M, r⟩ := x
      rw [hx] at h
      simp at h
      obtain ⟨rfl, rfl⟩ := h
      obtain ⟨h1, h2⟩ := body_magP fx hx
      refine ⟨by omega, ?_⟩
      rw [strip_inv _ _ ht, h2]
      unfold txt
      rw [Nat.add_div_right _ hS, Nat.div_eq_of_lt h1, Nat.add_mod_right, Nat.mod_eq_of_lt h1]
      rfl
  · cases h
end
theorem fx32 : Fx 8 23 6 1 127 := ⟨rfl, rfl, by omega, by omega⟩
theorem fx64 : Fx 11 52 13 0 1023 := ⟨rfl, rfl, by omega, by omega⟩
end Go.Proofs.Qxb6500680aGreatDoor
