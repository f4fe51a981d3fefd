import Derived.WalkKit
import Derived.Laws.BitsAllLaws
namespace Go.Proofs.Qxb6500680aGreatDoor
open Go.RowKit

theorem and_low (k : Nat) (hk : k ≤ 64) (n : Nat) (hn : n < 18446744073709551616) : bits .and .u64 (n : Int) ((2 ^ k - 1 : Nat) : Int) = ((n % 2 ^ k : Nat) : Int) := by
  have h64 : 2 ^ k ≤ 2 ^ 64 := Nat.pow_le_pow_right (by decide) hk
  rw [u64_and_nat n _ hn (by omega), Nat.and_two_pow_sub_one_eq_mod]
theorem and_bit (k : Nat) (hk : k < 64) (n : Nat) (hn : n < 18446744073709551616) : bits .and .u64 (n : Int) ((2 ^ k : Nat) : Int) = ((n / 2 ^ k % 2 * 2 ^ k : Nat) : Int) := by
  have h64 : 2 ^ k < 2 ^ 64 := Nat.pow_lt_pow_right (by decide) hk
  rw [u64_and_nat n _ hn (by omega)]
  congr 1
  have ht := Nat.testBit_eq_decide_div_mod_eq (x := n) (i := k)
  have := Nat.mod_two_eq_zero_or_one (n / 2 ^ k)
  apply Nat.eq_of_testBit_eq
  intro i
  rw [Nat.testBit_and, Nat.testBit_two_pow]
  rcases this with h | h
  · rw [h, Nat.zero_mul, Nat.zero_testBit]
    by_cases hi : k = i
    · subst hi; rw [ht, h]; simp
    · simp [hi]
  · rw [h, Nat.one_mul, Nat.testBit_two_pow]
    by_cases hi : k = i
    · subst hi; rw [ht, h]; simp
    · simp [hi]
theorem or_low (k a b : Nat) (hb : b < 2 ^ k) (h : 2 ^ k * a + b < 18446744073709551616) : bits .or .u64 ((2 ^ k * a : Nat) : Int) (b : Int) = ((2 ^ k * a + b : Nat) : Int) := by
  rw [u64_or_nat _ _ (by omega) (by omega), Nat.two_pow_add_eq_or_of_lt hb]
theorem or_top (k b : Nat) (hb : b < 2 ^ k) (h : 2 ^ k + b < 18446744073709551616) : bits .or .u64 (b : Int) ((2 ^ k : Nat) : Int) = ((2 ^ k + b : Nat) : Int) := by
  have := Nat.two_pow_add_eq_or_of_lt hb 1
  rw [u64_or_nat _ _ (by omega) (by omega), Nat.or_comm]
  rw [Nat.mul_one] at this
  rw [this]

/-- A pattern p of 32 bits and its fields. -/
structure Pat32 (p : Int) (neg q : Bool) (s e f : Int) : Prop where
  p0 : 0 ≤ p
  p1 : p < 4294967296
  s0 : s = if neg then 1 else 0
  e0 : 0 ≤ e
  e1 : e ≤ 255
  f0 : 0 ≤ f
  f1 : f ≤ 8388607
  pp : p = s * 2147483648 + e * 8388608 + f
  sg : (bits .and .u64 p 2147483648 != 0) = neg
  ex : bits .and .u64 (p / 8388608) 255 = e
  fr : bits .and .u64 p 8388607 = f
  mg : bits .and .u64 p 2147483647 = e * 8388608 + f
  qt : (bits .and .u64 p 4194304 == 0) = !q
  qn : (bits .and .u64 p 4194304 != 0) = q
  d1 : p / 2147483648 % 2 = s
  d2 : p / 8388608 % 256 = e
  d3 : p % 8388608 = f
  ee : bits .and .u64 e 255 = e
  ff : bits .and .u64 f 8388607 = f
  jn : bits .or .u64 (e * 8388608) f = e * 8388608 + f
  js : neg = true → bits .or .u64 (e * 8388608 + f) 2147483648 = p
  jp : neg = false → e * 8388608 + f = p

theorem pat32_of (p : Int) (h0 : 0 ≤ p) (h1 : p < 4294967296) : ∃ neg q s e f, Pat32 p neg q s e f := by
  obtain ⟨n, rfl⟩ := Int.eq_ofNat_of_zero_le h0
  have hn : n < 18446744073709551616 := by omega
  have aS : bits .and .u64 (n : Int) 2147483648 = ((n / 2147483648 % 2 * 2147483648 : Nat) : Int) := and_bit 31 (by decide) n hn
  have aQ : bits .and .u64 (n : Int) 4194304 = ((n / 4194304 % 2 * 4194304 : Nat) : Int) := and_bit 22 (by decide) n hn
  have aF : bits .and .u64 (n : Int) 8388607 = ((n % 8388608 : Nat) : Int) := and_low 23 (by decide) n hn
  have aM : bits .and .u64 (n : Int) 2147483647 = ((n % 2147483648 : Nat) : Int) := and_low 31 (by decide) n hn
  have aE : bits .and .u64 ((n / 8388608 : Nat) : Int) 255 = ((n / 8388608 % 256 : Nat) : Int) := and_low 8 (by decide) (n / 8388608) (by omega)
  have aE2 : bits .and .u64 ((n / 8388608 % 256 : Nat) : Int) 255 = ((n / 8388608 % 256 % 256 : Nat) : Int) := and_low 8 (by decide) (n / 8388608 % 256) (by omega)
  have aF2 : bits .and .u64 ((n % 8388608 : Nat) : Int) 8388607 = ((n % 8388608 % 8388608 : Nat) : Int) := and_low 23 (by decide) (n % 8388608) (by omega)
  have oJ : bits .or .u64 ((8388608 * (n / 8388608 % 256) : Nat) : Int) ((n % 8388608 : Nat) : Int) = ((8388608 * (n / 8388608 % 256) + n % 8388608 : Nat) : Int) := or_low 23 (n / 8388608 % 256) (n % 8388608) (by omega) (by omega)
  have oS : bits .or .u64 ((n % 2147483648 : Nat) : Int) 2147483648 = ((2147483648 + n % 2147483648 : Nat) : Int) := or_top 31 (n % 2147483648) (by omega) (by omega)
  have emf : ((n / 8388608 % 256 : Nat) : Int) * 8388608 + ((n % 8388608 : Nat) : Int) = ((n % 2147483648 : Nat) : Int) := by omega
  refine ⟨decide (n / 2147483648 % 2 = 1), decide (n / 4194304 % 2 = 1), ((n / 2147483648 % 2 : Nat) : Int), ((n / 8388608 % 256 : Nat) : Int), ((n % 8388608 : Nat) : Int), ?_⟩
  refine ⟨h0, h1, ?_, by omega, by omega, by omega, by omega, by omega, ?_, ?_, aF, ?_, ?_, ?_, by omega, by omega, by omega, ?_, ?_, ?_, ?_, ?_⟩
  · by_cases h : n / 2147483648 % 2 = 1
    · simp [h]
    · simp [h]; omega
  · rw [aS]
    by_cases h : n / 2147483648 % 2 = 1
    · simp [h]
    · have : n / 2147483648 % 2 = 0 := by omega
      simp [this]
  · have e1 : (n : Int) / 8388608 = ((n / 8388608 : Nat) : Int) := by omega
    rw [e1, aE]
  · rw [aM]; exact emf.symm
  · rw [aQ]
    by_cases h : n / 4194304 % 2 = 1
    · simp [h]
    · have : n / 4194304 % 2 = 0 := by omega
      simp [this]
  · rw [aQ]
    by_cases h : n / 4194304 % 2 = 1
    · simp [h]
    · have : n / 4194304 % 2 = 0 := by omega
      simp [this]
  · rw [aE2]; omega
  · rw [aF2]; omega
  · have e1 : ((n / 8388608 % 256 : Nat) : Int) * 8388608 = ((8388608 * (n / 8388608 % 256) : Nat) : Int) := by omega
    rw [e1, oJ]; omega
  · intro h
    rw [emf, oS]
    have : n / 2147483648 % 2 = 1 := by simpa using h
    omega
  · intro h
    rw [emf]
    have : ¬ n / 2147483648 % 2 = 1 := by simpa using h
    omega

/-- A pattern p of 64 bits and its fields. -/
structure Pat64 (p : Int) (neg q : Bool) (s e f : Int) : Prop where
  p0 : 0 ≤ p
  p1 : p < 18446744073709551616
  s0 : s = if neg then 1 else 0
  e0 : 0 ≤ e
  e1 : e ≤ 2047
  f0 : 0 ≤ f
  f1 : f ≤ 4503599627370495
  pp : p = s * 9223372036854775808 + e * 4503599627370496 + f
  sg : (bits .and .u64 p 9223372036854775808 != 0) = neg
  ex : bits .and .u64 (p / 4503599627370496) 2047 = e
  fr : bits .and .u64 p 4503599627370495 = f
  mg : bits .and .u64 p 9223372036854775807 = e * 4503599627370496 + f
  qt : (bits .and .u64 p 2251799813685248 == 0) = !q
  qn : (bits .and .u64 p 2251799813685248 != 0) = q
  d1 : p / 9223372036854775808 % 2 = s
  d2 : p / 4503599627370496 % 2048 = e
  d3 : p % 4503599627370496 = f
  ee : bits .and .u64 e 2047 = e
  ff : bits .and .u64 f 4503599627370495 = f
  jn : bits .or .u64 (e * 4503599627370496) f = e * 4503599627370496 + f
  js : neg = true → bits .or .u64 (e * 4503599627370496 + f) 9223372036854775808 = p
  jp : neg = false → e * 4503599627370496 + f = p

theorem pat64_of (p : Int) (h0 : 0 ≤ p) (h1 : p < 18446744073709551616) : ∃ neg q s e f, Pat64 p neg q s e f := by
  obtain ⟨n, rfl⟩ := Int.eq_ofNat_of_zero_le h0
  have hn : n < 18446744073709551616 := by omega
  have aS : bits .and .u64 (n : Int) 9223372036854775808 = ((n / 9223372036854775808 % 2 * 9223372036854775808 : Nat) : Int) := and_bit 63 (by decide) n hn
  have aQ : bits .and .u64 (n : Int) 2251799813685248 = ((n / 2251799813685248 % 2 * 2251799813685248 : Nat) : Int) := and_bit 51 (by decide) n hn
  have aF : bits .and .u64 (n : Int) 4503599627370495 = ((n % 4503599627370496 : Nat) : Int) := and_low 52 (by decide) n hn
  have aM : bits .and .u64 (n : Int) 9223372036854775807 = ((n % 9223372036854775808 : Nat) : Int) := and_low 63 (by decide) n hn
  have aE : bits .and .u64 ((n / 4503599627370496 : Nat) : Int) 2047 = ((n / 4503599627370496 % 2048 : Nat) : Int) := and_low 11 (by decide) (n / 4503599627370496) (by omega)
  have aE2 : bits .and .u64 ((n / 4503599627370496 % 2048 : Nat) : Int) 2047 = ((n / 4503599627370496 % 2048 % 2048 : Nat) : Int) := and_low 11 (by decide) (n / 4503599627370496 % 2048) (by omega)
  have aF2 : bits .and .u64 ((n % 4503599627370496 : Nat) : Int) 4503599627370495 = ((n % 4503599627370496 % 4503599627370496 : Nat) : Int) := and_low 52 (by decide) (n % 4503599627370496) (by omega)
  have oJ : bits .or .u64 ((4503599627370496 * (n / 4503599627370496 % 2048) : Nat) : Int) ((n % 4503599627370496 : Nat) : Int) = ((4503599627370496 * (n / 4503599627370496 % 2048) + n % 4503599627370496 : Nat) : Int) := or_low 52 (n / 4503599627370496 % 2048) (n % 4503599627370496) (by omega) (by omega)
  have oS : bits .or .u64 ((n % 9223372036854775808 : Nat) : Int) 9223372036854775808 = ((9223372036854775808 + n % 9223372036854775808 : Nat) : Int) := or_top 63 (n % 9223372036854775808) (by omega) (by omega)
  have emf : ((n / 4503599627370496 % 2048 : Nat) : Int) * 4503599627370496 + ((n % 4503599627370496 : Nat) : Int) = ((n % 9223372036854775808 : Nat) : Int) := by omega
  refine ⟨decide (n / 9223372036854775808 % 2 = 1), decide (n / 2251799813685248 % 2 = 1), ((n / 9223372036854775808 % 2 : Nat) : Int), ((n / 4503599627370496 % 2048 : Nat) : Int), ((n % 4503599627370496 : Nat) : Int), ?_⟩
  refine ⟨h0, h1, ?_, by omega, by omega, by omega, by omega, by omega, ?_, ?_, aF, ?_, ?_, ?_, by omega, by omega, by omega, ?_, ?_, ?_, ?_, ?_⟩
  · by_cases h : n / 9223372036854775808 % 2 = 1
    · simp [h]
    · simp [h]; omega
  · rw [aS]
    by_cases h : n / 9223372036854775808 % 2 = 1
    · simp [h]
    · have : n / 9223372036854775808 % 2 = 0 := by omega
      simp [this]
  · have e1 : (n : Int) / 4503599627370496 = ((n / 4503599627370496 : Nat) : Int) := by omega
    rw [e1, aE]
  · rw [aM]; exact emf.symm
  · rw [aQ]
    by_cases h : n / 2251799813685248 % 2 = 1
    · simp [h]
    · have : n / 2251799813685248 % 2 = 0 := by omega
      simp [this]
  · rw [aQ]
    by_cases h : n / 2251799813685248 % 2 = 1
    · simp [h]
    · have : n / 2251799813685248 % 2 = 0 := by omega
      simp [this]
  · rw [aE2]; omega
  · rw [aF2]; omega
  · have e1 : ((n / 4503599627370496 % 2048 : Nat) : Int) * 4503599627370496 = ((4503599627370496 * (n / 4503599627370496 % 2048) : Nat) : Int) := by omega
    rw [e1, oJ]; omega
  · intro h
    rw [emf, oS]
    have : n / 9223372036854775808 % 2 = 1 := by simpa using h
    omega
  · intro h
    rw [emf]
    have : ¬ n / 9223372036854775808 % 2 = 1 := by simpa using h
    omega

end Go.Proofs.Qxb6500680aGreatDoor

