import Derived.Test.Qxb6500680aGreatDoorTe
import Derived.Test.Qxb6500680aGreatDoorCh
import Derived.Test.Qxb6500680aGreatDoorFields
namespace Go.Proofs.Qxb6500680aGreatDoor
open Go.RowKit Go.BigFrame
set_option linter.unusedSimpArgs false
set_option linter.unusedSectionVars false
/-! From the machine's operations to the plain law. -/
theorem hexAt_hxc (v i : Nat) : hexAt v i = hxc (v / 2 ^ (4 * i) % 16) := by
  unfold hexAt
  have h : v / 2 ^ (4 * i) % 16 < 16 := Nat.mod_lt _ (by decide)
  generalize v / 2 ^ (4 * i) % 16 = d at h
  rcases d with _|_|_|_|_|_|_|_|_|_|_|_|_|_|_|_|d
  all_goals first | omega | decide
theorem hexs_hxs (v : Nat) : ∀ n, hexs v n = hxs v n
  | 0 => rfl
  | n + 1 => by rw [hexs, hxs, hexAt_hxc, hexs_hxs v n]
theorem ww (q BI : Nat) (h1 : q < 9223372036854775808) (h2 : BI < 5000) : wrap64 (wrap64 (q : Int) - (BI : Int)) = (q : Int) - (BI : Int) := by
  have h3 : wrap64 (q : Int) = q := by unfold wrap64; omega
  rw [h3]
  unfold wrap64
  omega
section
variable {E F H PD BI : Nat} (fx : Fx E F H PD BI) (h63 : E + F ≤ 63) (hH : H ≤ 16)
include fx h63 hH
theorem Fx.pd : PD ≤ 64 := by have := fx.h4; omega
theorem Fx.p4 : 2 ^ F * 2 ^ PD ≤ 18446744073709551616 := by
  rw [← Nat.pow_add, fx.h4]
  exact Nat.pow_le_pow_right (show 0 < 2 by decide) (show 4 * H ≤ 64 by omega)
theorem Fx.p63 : 2 ^ (E + F) ≤ 9223372036854775808 := Nat.pow_le_pow_right (show 0 < 2 by decide) h63
theorem appD_txt (p : Nat) (hp : p < 18446744073709551616) (b : Bool) (hb : b = true ↔ p / 2 ^ (E + F) % 2 = 1) {tl : List UInt8}
    (h : AppD b p F ((2 ^ (E + F) - 1 : Nat) : Int) ((2 ^ F - 1 : Nat) : Int) (((2 ^ E - 1) * 2 ^ F : Nat) : Int) ((2 ^ F : Nat) : Int) (BI : Int) (1 - (BI : Int)) H PD tl) : tl = txt E F H PD BI p := by
  have hF : 0 < 2 ^ F := Nat.pos_of_ne_zero (by simp)
  obtain ⟨M, G, hM, hG, h⟩ := h
  rw [and_low (E + F) (by omega) p hp] at hM
  have hM : p % 2 ^ (E + F) = M := by omega
  have hM1 : M < 2 ^ (E + F) := by rw [← hM]; exact Nat.mod_lt _ (Nat.pos_of_ne_zero (by simp))
  have h63' := fx.p63 h63 hH
  rw [and_low F (by omega) M (by omega)] at hG
  have hG : M % 2 ^ F = G := by omega
  have hs : (if p / 2 ^ (E + F) % 2 = 1 then (45 : UInt8) else 43) = sgc b := by
    unfold sgc
    cases b
    · rw [if_neg (fun e => by simpa using hb.2 e)]; rfl
    · rw [if_pos (hb.1 rfl)]; rfl
  unfold txt
  rw [hs, hM]
  unfold body
  rcases h with ⟨h1, rfl⟩ | ⟨h1, h2, rfl⟩ | ⟨h1, h2, rfl⟩ | ⟨h1, h2, h3, c, i, V, hE, hV, rfl⟩
  · rw [if_pos (by simpa using h1)]; rfl
  · simp at h1
    have h2 : M = (2 ^ E - 1) * 2 ^ F := by simp only [beq_iff_eq] at h2; omega
    rw [if_neg h1, if_pos h2]; rfl
  · simp at h1
    rw [if_neg h1, if_neg (by omega), if_pos (by omega), hG, hexs_hxs]; simp
  · simp at h1
    have h2 : M ≠ (2 ^ E - 1) * 2 ^ F := by intro e; rw [e] at h2; simp at h2
    have hV : V = M % 2 ^ F * 2 ^ PD := by
      have hm := Nat.mod_lt M hF
      have a1 := fx.p4 h63 hH
      have a2 : G * 2 ^ PD < 18446744073709551616 := by
        rw [← hG]
        exact Nat.lt_of_lt_of_le (Nat.mul_lt_mul_of_pos_right hm (Nat.pos_of_ne_zero (by simp))) a1
      rw [Nat.min_eq_left (fx.pd h63 hH), show ((G : Int) * 2 ^ PD) = ((G * 2 ^ PD : Nat) : Int) by simp, IntKind.wrap_u64] at hV
      rw [hG]
      omega
    have h3' : ¬ (2 ^ E - 1) * 2 ^ F < M := fun h => h3 (Int.ofNat_lt.2 h)
    rw [if_neg h1, if_neg h2, if_neg h3', ← hV]
    rcases hE with ⟨c1, rfl, rfl⟩ | ⟨c1, rfl, rfl⟩
    · rw [if_pos (Int.ofNat_lt.1 c1), hexs_hxs]
      simp [expT]
    · rw [if_neg (fun h => c1 (Int.ofNat_lt.2 h)), hexs_hxs]
      have hq : M / 2 ^ F ≤ M := Nat.div_le_self _ _
      have hw : wrap64 (wrap64 ((M : Int) / 2 ^ min F 64) - (BI : Int)) = ((M / 2 ^ F : Nat) : Int) - (BI : Int) := by
        rw [Nat.min_eq_left (by omega), show ((M : Int) / 2 ^ F) = ((M / 2 ^ F : Nat) : Int) by simp]
        exact ww _ _ (Nat.lt_of_le_of_lt hq (Nat.lt_of_lt_of_le hM1 h63')) fx.h2
      rw [hw]
      simp [expT]
theorem zbW_eq (v : Nat) (hv : v < 18446744073709551616) : zbW PD v = true ↔ v % 2 ^ PD ≠ 0 := by
  have hpd := fx.pd h63 hH
  unfold zbW
  have e : IntKind.u64.wrap (IntKind.u64.wrap (2 ^ min PD 64) - 1) = ((2 ^ PD - 1 : Nat) : Int) := by
    rw [Nat.min_eq_left hpd]
    have h1 : 1 ≤ 2 ^ PD := Nat.one_le_two_pow
    have h2 : 2 ^ PD ≤ 18446744073709551616 := Nat.pow_le_pow_right (show 0 < 2 by decide) hpd
    rw [show (2 : Int) ^ PD = ((2 ^ PD : Nat) : Int) by simp]
    simp only [IntKind.wrap_u64]
    omega
  rw [e, and_low PD hpd v hv, bne_iff_ne, ne_eq, Int.natCast_eq_zero]
theorem nmW_eq (e : Int) (fr : Nat) (h1 : ¬ e < 1 - (BI : Int)) (h2 : ¬ (BI : Int) < e) (hf : fr < 2 ^ F) : nmW F BI e fr = (((e + BI).toNat * 2 ^ F + fr : Nat) : Int) := by
  have hF : 0 < 2 ^ F := Nat.pos_of_ne_zero (by simp)
  obtain ⟨q, hq⟩ : ∃ q : Nat, e + BI = q := ⟨(e + BI).toNat, by omega⟩
  have e1 := fx.e1
  have hq1 : q + 1 ≤ 2 ^ E - 1 := by rw [e1]; omega
  have m4 : (q + 1) * 2 ^ F ≤ (2 ^ E - 1) * 2 ^ F := Nat.mul_le_mul_right _ hq1
  have m6 : q * 2 ^ F + 2 ^ F ≤ 9223372036854775808 := by
    rw [← Nat.succ_mul]
    exact Nat.le_trans m4 (Nat.le_trans (by rw [fx.ef]; exact Nat.le_add_right _ _) (fx.p63 h63 hH))
  have hq2 : q < 10000 := by have := fx.h2; omega
  have hFl : F ≤ 64 := by omega
  clear m4 hq1 e1 h63 hH fx
  unfold nmW
  rw [hq, Int.toNat_natCast, Nat.min_eq_left hFl]
  have w1 : IntKind.u64.wrap (wrap64 (q : Int)) = q := by clear m6 hf hF; rw [IntKind.wrap_u64]; unfold wrap64; omega
  have w2 : IntKind.u64.wrap ((q : Int) * 2 ^ F) = ((2 ^ F * q : Nat) : Int) := by
    rw [show ((q : Int) * 2 ^ F) = ((q * 2 ^ F : Nat) : Int) by simp, Nat.mul_comm (2 ^ F) q]
    generalize q * 2 ^ F = z at m6
    generalize 2 ^ F = P at m6
    rw [IntKind.wrap_u64]
    omega
  have hc : 2 ^ F * q = q * 2 ^ F := Nat.mul_comm _ _
  have hlt : 2 ^ F * q + fr < 18446744073709551616 := by
    rw [hc]
    generalize q * 2 ^ F = z at m6
    generalize 2 ^ F = P at m6 hf
    omega
  rw [w1, w2, or_low F q fr hf hlt, hc]
theorem nanW_eq (t : List UInt8) : nanW ((2 ^ F - 1 : Nat) : Int) (((2 ^ E - 1) * 2 ^ F : Nat) : Int) H t = (nanP E F H t).map fun x => ((x.1 : Int), x.2) := by
  have hef := fx.ef
  have h63' := fx.p63 h63 hH
  unfold nanW nanP
  cases hx : hexP H t with
  | none => rfl
  | some x =>
    obtain ⟨v, r⟩ := x
    simp only [Option.bind_some]
    by_cases c : v = 0 ∨ 2 ^ F - 1 < v
    · rw [if_pos c, if_pos (by omega)]; rfl
    · rw [if_neg c, if_neg (by omega)]
      cases strip [41] r with
      | none => rfl
      | some r' =>
        simp only [Option.map_some]
        rw [Nat.mul_comm (2 ^ E - 1), or_low F _ v (by have : 0 < 2 ^ F := Nat.pos_of_ne_zero (by simp); omega) (by rw [Nat.mul_comm (2 ^ F)]; omega)]
theorem finQW_eq (nb : Bool) (t : List UInt8) : finQW F BI (1 - (BI : Int)) BI H PD nb t = (finQ F H PD BI nb t).map fun x => ((x.1 : Int), x.2) := by
  have hP : 0 < 2 ^ PD := Nat.pos_of_ne_zero (by simp)
  unfold finQW finQ
  cases hx : hexP H t with
  | none => rfl
  | some x =>
    obtain ⟨v, r⟩ := x
    obtain ⟨_, hv⟩ := hexP_inv hx
    have hd : 2 ^ (4 * H) = 2 ^ F * 2 ^ PD := by rw [← fx.h4, Nat.pow_add]
    have hv64 : v < 18446744073709551616 := by have := fx.p4 h63 hH; omega
    have hzb := zbW_eq fx h63 hH v hv64
    have hdv : ((v : Int) / 2 ^ min PD 64) = ((v / 2 ^ PD : Nat) : Int) := by rw [Nat.min_eq_left (fx.pd h63 hH)]; simp
    have hfr : v / 2 ^ PD < 2 ^ F := (Nat.div_lt_iff_lt_mul hP).2 (by omega)
    simp only [Option.bind_some, hdv]
    by_cases c1 : v % 2 ^ PD ≠ 0
    · rw [if_pos c1, if_pos (hzb.2 c1)]; rfl
    rw [if_neg c1, if_neg (fun e => c1 (hzb.1 e))]
    by_cases c2 : nb = false ∧ v / 2 ^ PD = 0
    · rw [if_pos c2, if_pos ⟨c2.1, by omega⟩]; rfl
    rw [if_neg c2, if_neg (by rintro ⟨a, b⟩; exact c2 ⟨a, by omega⟩)]
    cases strip [112] r with
    | none => rfl
    | some r1 =>
      simp only [Option.bind_some]
      cases expP r1 with
      | none => rfl
      | some y =>
        obtain ⟨e, r2⟩ := y
        simp only [Option.bind_some]
        cases nb
        · simp only [Bool.false_eq_true, if_false]
          by_cases c3 : e ≠ 1 - (BI : Int)
          · rw [if_pos c3, if_pos c3]; rfl
          · rw [if_neg c3, if_neg c3]; rfl
        · simp only [if_true]
          by_cases c3 : e < 1 - (BI : Int) ∨ (BI : Int) < e
          · rw [if_pos c3, if_pos c3]; rfl
          · rw [if_neg c3, if_neg c3, nmW_eq fx h63 hH e _ (fun h => c3 (.inl h)) (fun h => c3 (.inr h)) hfr]; rfl
theorem finW_eq (t : List UInt8) : finW F BI (1 - (BI : Int)) BI H PD t = (finP F H PD BI t).map fun x => ((x.1 : Int), x.2) := by
  unfold finW finP
  cases strip [48, 46] t with
  | some r => exact finQW_eq fx h63 hH false r
  | none =>
    cases strip [49, 46] t with
    | some r => exact finQW_eq fx h63 hH true r
    | none => rfl
theorem magW_eq (t : List UInt8) : magW F ((2 ^ F - 1 : Nat) : Int) (((2 ^ E - 1) * 2 ^ F : Nat) : Int) BI (1 - (BI : Int)) BI H PD t = (magP E F H PD BI t).map fun x => ((x.1 : Int), x.2) := by
  unfold magW magP
  cases strip [105, 110, 102] t with
  | some r => rfl
  | none =>
    cases strip [110, 97, 110, 40, 48, 120] t with
    | some r => exact nanW_eq fx h63 hH r
    | none =>
      cases strip [48, 120, 48, 112, 43, 48] t with
      | some r => rfl
      | none =>
        cases strip [48, 120] t with
        | some r => exact finW_eq fx h63 hH r
        | none => rfl
def wsW (S : Int) (m : Int) (b : Bool) : Int := if b then bits .or .u64 m S else m
omit fx h63 hH
theorem wsW_top (k m : Nat) (hm : m < 2 ^ k) (hk : k ≤ 63) : wsW ((2 ^ k : Nat) : Int) m true = ((m + 2 ^ k : Nat) : Int) := by
  have h : 2 ^ k ≤ 9223372036854775808 := Nat.pow_le_pow_right (show 0 < 2 by decide) hk
  unfold wsW
  rw [if_pos rfl, or_top k m hm (by omega), Nat.add_comm]
include fx h63 hH
theorem endW_eq (t : List UInt8) (nb : Bool) : endW (wsW ((2 ^ (E + F) : Nat) : Int)) (magW F ((2 ^ F - 1 : Nat) : Int) (((2 ^ E - 1) * 2 ^ F : Nat) : Int) BI (1 - (BI : Int)) BI H PD t) nb = (endP E F H PD BI nb t).map fun q => (q : Int) := by
  rw [magW_eq fx h63 hH]
  unfold endW endP
  cases hm : magP E F H PD BI t with
  | none => rfl
  | some x =>
    obtain ⟨M, r⟩ := x
    simp only [Option.map_some, Option.bind_some]
    by_cases hr : r = []
    · subst hr
      obtain ⟨h1, _⟩ := body_magP fx hm
      rw [if_pos rfl, if_pos rfl]
      cases nb
      · rfl
      · rw [wsW_top _ _ h1 h63]; rfl
    · rw [if_neg hr, if_neg hr]; rfl
theorem parseW_eq (s : List UInt8) : parseW F ((2 ^ F - 1 : Nat) : Int) (((2 ^ E - 1) * 2 ^ F : Nat) : Int) BI (1 - (BI : Int)) BI H PD (wsW ((2 ^ (E + F) : Nat) : Int)) s = (parse E F H PD BI s).map fun q => (q : Int) := by
  unfold parseW parse
  cases strip [43] s with
  | some t => exact endW_eq fx h63 hH t false
  | none =>
    cases strip [45] s with
    | some t => exact endW_eq fx h63 hH t true
    | none => rfl
end
/-- A call that answers this text. -/
def TextE (w : World) (tl : List UInt8) (e : Ending) (w' : World) : Prop := e = .returned (.string ⟨tl.toArray⟩) ∧ tl.length ≤ 100 ∧ ∃ x, w' = ext w x
theorem sb_iff (k : Nat) (hk : k < 64) (p : Nat) (hp : p < 18446744073709551616) : (bits .and .u64 (p : Int) ((2 ^ k : Nat) : Int) != 0) = true ↔ p / 2 ^ k % 2 = 1 := by
  rw [and_bit k hk p hp]
  have h : 0 < 2 ^ k := Nat.pos_of_ne_zero (by simp)
  have h2 : p / 2 ^ k % 2 = 0 ∨ p / 2 ^ k % 2 = 1 := by omega
  rcases h2 with h2 | h2
  · simp [h2]
  · have h3 : ((2 ^ k : Nat) : Int) ≠ 0 := Int.natCast_ne_zero.2 (Nat.ne_of_gt h)
    rw [h2, Nat.one_mul, bne_iff_ne]
    exact ⟨fun _ => rfl, fun _ => h3⟩
theorem text32 (p : Nat) (hp : p < 18446744073709551616) (w : World) (htab : Lib.TabIs Tryz.prog w "internal/strconv.uint64pow10" .u64 Lib.pow10Tab) : Calls Tryz.prog 16 #[.agg #[.int .u64 (32 : Int), .int .u64 (8 : Int), .int .u64 (23 : Int)], .int .u64 p] w (TextE w (txt 8 23 6 1 127 p)) := by
  refine (text_eq fc32 p _ (signBit32 p) w htab).mono ?_
  rintro e w' ⟨tl, hD, h1, h2, h3⟩
  have := appD_txt fx32 (by decide) (by decide) p hp (bits .and .u64 (p : Int) 2147483648 != 0) (sb_iff 31 (by decide) p hp) hD
  subst this
  exact ⟨h1, h2, h3⟩
theorem text64 (p : Nat) (hp : p < 18446744073709551616) (w : World) (htab : Lib.TabIs Tryz.prog w "internal/strconv.uint64pow10" .u64 Lib.pow10Tab) : Calls Tryz.prog 16 #[.agg #[.int .u64 (64 : Int), .int .u64 (11 : Int), .int .u64 (52 : Int)], .int .u64 p] w (TextE w (txt 11 52 13 0 1023 p)) := by
  refine (text_eq fc64 p _ (signBit64 p) w htab).mono ?_
  rintro e w' ⟨tl, hD, h1, h2, h3⟩
  have := appD_txt fx64 (by decide) (by decide) p hp (bits .and .u64 (p : Int) 9223372036854775808 != 0) (sb_iff 63 (by decide) p hp) hD
  subst this
  exact ⟨h1, h2, h3⟩
/-- ParseText answers a pattern and no error, or an error. -/
def ParseE (r : Option Nat) (w : World) (e : Ending) (w' : World) : Prop := ((∃ q : Nat, r = some q ∧ e = .returned (.tuple #[.int .u64 q, .nilIface])) ∨ (r = none ∧ ∃ (v : Int) (er : Value), ErrV er ∧ e = .returned (.tuple #[.int .u64 v, er]))) ∧ ∃ x, w' = ext w x
theorem ptX_E {r : Option Nat} {w : World} {e : Ending} {w' : World} (h : PtX (r.map fun q => (q : Int)) w e w') : ParseE r w e w' := by
  obtain ⟨v, er, rfl, hv, h, hx⟩ := h
  refine ⟨?_, hx⟩
  rcases h with ⟨rfl, h⟩ | ⟨h1, h⟩
  · cases r with
    | none => cases h
    | some q => simp at h; exact .inl ⟨q, rfl, by rw [h]⟩
  · cases r with
    | none => exact .inr ⟨rfl, v, er, h1, rfl⟩
    | some q => cases h
theorem parse32 (s : ByteArray) (hs : s.size ≤ 100) (w : World) : Calls Tryz.prog 17 #[.agg #[.int .u64 (32 : Int), .int .u64 (8 : Int), .int .u64 (23 : Int)], .string s] w (ParseE (parse 8 23 6 1 127 s.data.toList) w) := by
  refine (parseText_eq fc32 ⟨by decide, by decide⟩ (wsW 2147483648) (fun m b hm => ⟨by cases b; exact hm; exact (bits_in .or m 2147483648 : InR .u64 (bits .or .u64 m 2147483648)), fun w => withSign32 m _ b (by rintro rfl; rfl) (by rintro rfl; rfl) w⟩) s hs w).mono ?_
  intro e w' h
  rw [show parseW 23 8388607 2139095040 127 (-126) 127 6 1 (wsW 2147483648) s.data.toList = (parse 8 23 6 1 127 s.data.toList).map fun q => (q : Int) from parseW_eq fx32 (by decide) (by decide) _] at h
  exact ptX_E h
theorem parse64 (s : ByteArray) (hs : s.size ≤ 100) (w : World) : Calls Tryz.prog 17 #[.agg #[.int .u64 (64 : Int), .int .u64 (11 : Int), .int .u64 (52 : Int)], .string s] w (ParseE (parse 11 52 13 0 1023 s.data.toList) w) := by
  refine (parseText_eq fc64 ⟨by decide, by decide⟩ (wsW 9223372036854775808) (fun m b hm => ⟨by cases b; exact hm; exact (bits_in .or m 9223372036854775808 : InR .u64 (bits .or .u64 m 9223372036854775808)), fun w => withSign64 m _ b (by rintro rfl; rfl) (by rintro rfl; rfl) w⟩) s hs w).mono ?_
  intro e w' h
  rw [show parseW 52 4503599627370495 9218868437227405312 1023 (-1022) 1023 13 0 (wsW 9223372036854775808) s.data.toList = (parse 11 52 13 0 1023 s.data.toList).map fun q => (q : Int) from parseW_eq fx64 (by decide) (by decide) _] at h
  exact ptX_E h
end Go.Proofs.Qxb6500680aGreatDoor
