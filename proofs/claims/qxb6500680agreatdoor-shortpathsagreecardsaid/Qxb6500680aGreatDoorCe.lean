import Derived.Test.Qxb6500680aGreatDoorPt
import Derived.Test.Qxb6500680aGreatDoorTp
namespace Go.Proofs.Qxb6500680aGreatDoor
open Go.RowKit Go.BigFrame
set_option linter.unusedSimpArgs false
attribute [local go_sem] ext_cell_if ext_frozen_if alloc_cell_if alloc_frozen_if ext_size ext_ext
theorem ba_loop (bs : ByteArray) : ∀ (n i : Nat) (r : List UInt8), bs.size - i = n → ByteArray.toList.loop bs i r = r.reverse ++ bs.data.toList.drop i
  | 0, i, r, h => by
    rw [ByteArray.toList.loop, if_neg (by omega)]
    have : bs.data.toList.length = bs.size := by simp
    rw [List.drop_of_length_le (by omega)]; simp
  | n + 1, i, r, h => by
    have hl : bs.data.toList.length = bs.size := by simp
    rw [ByteArray.toList.loop, if_pos (by omega), ba_loop bs n (i + 1) _ (by omega)]
    have hi : i < bs.data.toList.length := by omega
    rw [List.drop_eq_getElem_cons hi]
    have : bs.get! i = bs.data.toList[i] := by
      show bs.data[i]! = _
      rw [getElem!_pos bs.data i (by simpa using hi)]; simp
    simp [this]
theorem ba_toList (bs : ByteArray) : bs.toList = bs.data.toList := by
  unfold ByteArray.toList
  rw [ba_loop bs _ 0 [] rfl]; simp
theorem ba_extract (s : ByteArray) (i j : Nat) : (s.extract i j).toList = (s.data.toList.drop i).take (j - i) := by
  rw [ba_toList]
  simp
/-- What of the text lies from place i on. -/
def At (s : ByteArray) (i : Nat) : List UInt8 := s.data.toList.drop i
theorem At.len (s : ByteArray) (i : Nat) : (At s i).length = s.size - i := by simp [At]
theorem At.cons (s : ByteArray) (i : Nat) (h : i < s.size) : At s i = s[i] :: At s (i + 1) := by
  unfold At
  rw [List.drop_eq_getElem_cons (by simpa using h)]
  rfl
theorem At.drop (s : ByteArray) (i k : Nat) : (At s i).drop k = At s (i + k) := by simp [At, List.drop_drop]
theorem At.nil (s : ByteArray) (i : Nat) (h : s.size ≤ i) : At s i = [] := List.drop_of_length_le (by simpa using h)
theorem At.nil_iff (s : ByteArray) (i : Nat) (h : i ≤ s.size) : At s i = [] ↔ i = s.size := by
  constructor
  · intro e
    have := congrArg List.length e
    rw [At.len] at this
    simp at this
    omega
  · rintro rfl; exact At.nil _ _ (Nat.le_refl _)
/-- The step of a literal. -/
def LitR (l t : List UInt8) (b : Bool) (t' : List UInt8) : Prop := (b = true → strip l t = some t') ∧ (b = false → strip l t = none ∧ t' = t)
def HexR (n : Nat) (t : List UInt8) (b : Bool) (v : Nat) (t' : List UInt8) : Prop := (b = true → hexP n t = some (v, t')) ∧ (b = false → hexP n t = none)
def DecR (t : List UInt8) (b : Bool) (v : Nat) (t' : List UInt8) : Prop := (b = true → decP t = some (v, t') ∧ v < 10000) ∧ (b = false → decP t = none)
def ExpR (t : List UInt8) (b : Bool) (v : Int) (t' : List UInt8) : Prop := (b = true → expP t = some (v, t') ∧ -10000 < v ∧ v < 10000) ∧ (b = false → expP t = none)
/-- The cursor's place behind a step. -/
def CuK (cb : Nat) (s : ByteArray) (i' : Nat) (w w' : World) : Prop := i' ≤ s.size ∧ Cu cb s i' w' ∧ w.grownBy w' (some cb)
def LitX (cb : Nat) (s : ByteArray) (l t : List UInt8) (w : World) (e : Ending) (w' : World) : Prop := ∃ (b : Bool) (i' : Nat), e = .returned (.bool b) ∧ LitR l t b (At s i') ∧ CuK cb s i' w w'
def HexX (cb : Nat) (s : ByteArray) (n : Nat) (t : List UInt8) (w : World) (e : Ending) (w' : World) : Prop := ∃ (v : Nat) (b : Bool) (i' : Nat), e = .returned (.tuple #[.int .u64 v, .bool b]) ∧ v ≤ 18446744073709551615 ∧ HexR n t b v (At s i') ∧ CuK cb s i' w w'
def DecX (cb : Nat) (s : ByteArray) (t : List UInt8) (w : World) (e : Ending) (w' : World) : Prop := ∃ (v : Nat) (b : Bool) (i' : Nat), e = .returned (.tuple #[.int .i64 v, .bool b]) ∧ DecR t b v (At s i') ∧ CuK cb s i' w w'
def ExpX (cb : Nat) (s : ByteArray) (t : List UInt8) (w : World) (e : Ending) (w' : World) : Prop := ∃ (v : Int) (b : Bool) (i' : Nat), e = .returned (.tuple #[.int .i64 v, .bool b]) ∧ ExpR t b v (At s i') ∧ CuK cb s i' w w'
theorem strip_short : ∀ (l t : List UInt8), t.length < l.length → strip l t = none
  | [], t, h => by simp at h
  | c :: l, [], h => rfl
  | c :: l, d :: t, h => by
    unfold strip
    split
    · exact strip_short l t (by simpa using h)
    · rfl
theorem strip_take : ∀ (l t : List UInt8), t.take l.length = l → strip l t = some (t.drop l.length)
  | [], t, h => by simp [strip]
  | c :: l, [], h => by simp at h
  | c :: l, d :: t, h => by
    simp at h
    obtain ⟨rfl, h⟩ := h
    unfold strip
    rw [if_pos rfl, strip_take l t h]
    simp
theorem strip_not (l t : List UInt8) (h : t.take l.length ≠ l) : strip l t = none := by
  cases hs : strip l t with
  | none => rfl
  | some r =>
    have := strip_inv _ _ hs
    subst this
    exact absurd (by simp) h
set_option maxRecDepth 100000 in
theorem literal_eq (cb : Nat) (s lit : ByteArray) (i : Nat) (hs : s.size ≤ 100) (hi : i ≤ s.size) (hl : lit.size ≤ 100) (w : World) (hc : Cu cb s i w) : Calls Tryz.prog 83 #[.pointer (some ⟨cb, 0, none⟩), .string lit] w (LitX cb s lit.data.toList (At s i) w) := by
  have k0 : w.cell? ⟨cb, 0, none⟩ = some (.string s) := cell_of_cells hc 0
  have k1 : w.cell? ⟨cb, 1, none⟩ = some (.int .i64 i) := cell_of_cells hc 1
  have m1 := mark_of_cells hc 1
  have hlt := lt_of_cells hc
  have HC := hidden hc
  clear hc
  go_enter Tryz.func83, Tryz.ntmps83
  go_upto_region 1 with (fail)
  by_cases c1 : (s.size : Int) - i < lit.size
  · refine wp_region_ext (by kernel_rfl) (by kernel_rfl) ?_
    repeat (go_big_quiet_step ((fail)))
    refine wpQuiet_nil ?_
    rintro w1 ⟨x1, rfl⟩
    go_wp2_with (fail)
    go_ret
    exact ⟨false, i, rfl, ⟨by simp, fun _ => ⟨strip_short _ _ (by rw [At.len]; simp; omega), rfl⟩⟩, hi, blk_ext HC.out, grown_ext _ _ _⟩
  · refine wp_region_ext (by kernel_rfl) (by kernel_rfl) ?_
    repeat (go_big_quiet_step ((fail)))
    refine wpQuiet_nil ?_
    rintro w1 ⟨x1, rfl⟩
    go_upto_if 37 with (fail)
    obtain ⟨b, hb⟩ : ∃ b, ((s.extract i (i + lit.size)).toList == lit.toList) = b := ⟨_, rfl⟩
    simp only [hb]
    have HB := hidden hb
    have hll : lit.data.toList.length = lit.size := by simp
    rw [ba_extract, ba_toList, Nat.add_sub_cancel_left, ← hll] at hb
    have HS := hidden hb
    clear hb hll HB
    cases b
    · go_wp2_with (fail)
      go_ret
      exact ⟨false, i, rfl, ⟨by simp, fun _ => ⟨strip_not _ _ (by unfold At; simpa using HS.out), rfl⟩⟩, hi, blk_ext HC.out, grown_ext _ _ _⟩
    · go_wp2_with (fail)
      go_ret
      refine ⟨true, i + lit.size, rfl, ⟨fun _ => ?_, by simp⟩, by omega, ?_, grown_trans (grown_ext _ _ _) (grown_set _ _ _)⟩
      · rw [strip_take _ _ (by unfold At; simpa using HS.out), At.drop]; simp
      have h := blk_set (blk_ext (x := x1) HC.out) 1 (.int .i64 ((i + lit.size : Nat) : Int))
      simpa [Cu] using h
theorem hex_wrap (v : Nat) (hv : v < 2 ^ 52) : IntKind.u64.wrap ((v : Int) * 16) = (v : Int) * 16 := by
  rw [IntKind.wrap_u64]
  omega
theorem hex_step (v d : Nat) (hv : v < 2 ^ 52) (hd : d < 16) : bits .or .u64 ((v : Int) * 16) (d : Int) = ((v * 16 + d : Nat) : Int) := by
  have := or_low 4 v d (by omega) (by omega)
  rw [show ((v : Int) * 16) = ((2 ^ 4 * v : Nat) : Int) by simp; omega, this]
  simp
  omega
/-- Where the reading of n hexadecimal digits stands behind j of them. -/
def HexI (s : ByteArray) (i n j v : Nat) : Prop := hexF ((At s i).take n) 0 = hexF ((At s (i + j)).take (n - j)) v
theorem HexI.step {s : ByteArray} {i n j v : Nat} (h : HexI s i n j v) (hj : j < n) (hs : i + n ≤ s.size) (c : UInt8) (hc : At s (i + j) = c :: At s (i + (j + 1))) : (hval c = none → hexP n (At s i) = none) ∧ ∀ d, hval c = some d → HexI s i n (j + 1) (v * 16 + d) := by
  unfold HexI at *
  have e : (At s (i + j)).take (n - j) = c :: (At s (i + (j + 1))).take (n - (j + 1)) := by
    rw [hc, show n - j = (n - (j + 1)) + 1 by omega, List.take_succ_cons]
  rw [e] at h
  constructor
  · intro hv
    unfold hexP
    rw [if_neg (by rw [At.len]; omega), h]
    simp [hexF, hv]
  · intro d hd
    rw [h]
    simp [hexF, hd]
theorem HexI.done {s : ByteArray} {i n v : Nat} (h : HexI s i n n v) (hs : i + n ≤ s.size) : hexP n (At s i) = some (v, At s (i + n)) := by
  unfold HexI at h
  unfold hexP
  rw [if_neg (by rw [At.len]; omega), h, At.drop]
  simp [hexF]
set_option maxRecDepth 100000 in
theorem hex_eq (cb : Nat) (s : ByteArray) (i n : Nat) (hs : s.size ≤ 100) (hi : i ≤ s.size) (hn : n ≤ 13) (w : World) (hc : Cu cb s i w) : Calls Tryz.prog 190 #[.pointer (some ⟨cb, 0, none⟩), .int .i64 n] w (HexX cb s n (At s i) w) := by
  have k0 : w.cell? ⟨cb, 0, none⟩ = some (.string s) := cell_of_cells hc 0
  have k1 : w.cell? ⟨cb, 1, none⟩ = some (.int .i64 i) := cell_of_cells hc 1
  have hlt := lt_of_cells hc
  have HC := hidden hc
  clear hc
  go_enter Tryz.func190, Tryz.ntmps190
  go_upto_region 1 with (fail)
  refine wp_region_ext (by kernel_rfl) (by kernel_rfl) ?_
  repeat (go_big_quiet_step ((fail)))
  refine wpQuiet_nil ?_
  rintro w1 ⟨x1, rfl⟩
  by_cases c1 : (s.size : Int) - i < n
  · go_wp2_with (fail)
    go_ret2
    exact ⟨0, false, i, rfl, by omega, ⟨by simp, fun _ => by unfold hexP; rw [if_pos (by rw [At.len]; omega)]⟩, hi, blk_ext HC.out, grown_ext _ _ _⟩
  · go_wp2_with (fail)
    go_loopw [6, 7, 8] (fun s6 s7 _s8 wi => ∃ (v : Nat) (j : Nat), s6 = .int .u64 v ∧ v < 2 ^ (4 * j) ∧ s7 = .int .i64 j ∧ j ≤ n ∧ HexI s i n j v ∧ ∃ x, wi = ext w x) (fun _ s7 _ _ => (n - intOf s7).toNat)
    case atStart => exact ⟨0, 0, rfl, by decide, rfl, by omega, rfl, _, rfl⟩
    case round =>
      obtain ⟨v, j, rfl, hv, rfl, hj, hI, x2, rfl⟩ := hrel
      have HV := hidden hv
      have HI := hidden hI
      clear hv hI
      by_cases c2 : j < n
      · obtain ⟨q, hq⟩ : ∃ q : Nat, (i : Int) + j = q := ⟨i + j, by omega⟩
        have hqs : q < s.size := by omega
        go_upto_region 7 with (fail)
        refine wp_region_ext (by kernel_rfl) (by kernel_rfl) ?_
        repeat (go_big_quiet_step ((fail)))
        refine wpQuiet_nil ?_
        rintro w3 ⟨x3, rfl⟩
        obtain ⟨ch, hch, hchb⟩ : ∃ ch : Nat, s[q].toNat = ch ∧ ch < 256 := ⟨_, rfl, s[q].toNat_lt⟩
        simp only [hch]
        obtain ⟨cc, hcc⟩ : ∃ cc, s[q] = cc := ⟨_, rfl⟩
        have HI2 := hidden (HI.out.step c2 (by omega : i + n ≤ s.size) cc (by rw [show i + j = q by omega, At.cons s q hqs, hcc, show i + (j + 1) = q + 1 by omega]))
        rw [hcc] at hch
        have HCH := hidden hch
        clear hch hcc hq hqs
        have go : Hid (∀ (d : Nat) (v' : Int) (s8 : Value) (wi : World), hval cc = some d → v' = ((v * 16 + d : Nat) : Int) → (∃ x, wi = ext w x) → (∃ (v : Nat) (j' : Nat), Value.int .u64 v' = .int .u64 v ∧ v < 2 ^ (4 * j') ∧ Value.int .i64 ((j : Int) + 1) = .int .i64 j' ∧ j' ≤ n ∧ HexI s i n j' v ∧ ∃ x, wi = ext w x) ∧ ((n : Int) - intOf (.int .i64 ((j : Int) + 1))).toNat < ((n : Int) - intOf (.int .i64 (j : Int))).toNat) := hidden (fun d v' s8 wi hd hv' hx => ⟨⟨v * 16 + d, j + 1, by rw [hv'], by have h1 := HV.out; have h2 := (hxc_hval hd).1; rw [show 4 * (j + 1) = 4 * j + 4 by omega, Nat.pow_add]; omega, rfl, by omega, HI2.out.2 d hd, hx⟩, by simp [intOf]; omega⟩)
        have HV52 : Hid (v < 2 ^ 52) := hidden (Nat.lt_of_lt_of_le HV.out (Nat.pow_le_pow_right (by decide) (by omega)))
        by_cases d1 : 48 ≤ ch ∧ ch ≤ 57
        · obtain ⟨d1, d2⟩ := d1
          go_wp2_with (fail)
          exact go.out (ch - 48) _ (.bool true) _ (by unfold hval; rw [HCH.out, if_pos ⟨d1, d2⟩]) (by rw [← hex_step v (ch - 48) HV52.out (by omega), hex_wrap v HV52.out]; congr 1; omega) ⟨_, rfl⟩
        by_cases d2 : 97 ≤ ch ∧ ch ≤ 102
        · obtain ⟨d2, d3⟩ := d2
          go_wp2_with (fail)
          all_goals exact go.out (ch - 87) _ (.bool true) _ (by unfold hval; rw [HCH.out, if_neg (by omega), if_pos ⟨d2, d3⟩]) (by rw [← hex_step v (ch - 87) HV52.out (by omega), hex_wrap v HV52.out]; congr 1; omega) ⟨_, rfl⟩
        · go_wp2_with (fail)
          all_goals first | (exfalso; omega) | (go_ret2; exact ⟨0, false, i, rfl, by omega, ⟨by simp, fun _ => HI2.out.1 (by unfold hval; rw [HCH.out, if_neg d1, if_neg d2])⟩, hi, blk_ext HC.out, grown_ext _ _ _⟩)
      · have m1 := mark_of_cells HC.out 1
        have hjn : j = n := by omega
        subst hjn
        go_wp2_with (fail)
        go_ret2
        refine ⟨v, true, i + j, rfl, by have h1 := HV.out; have h2 : 2 ^ (4 * j) ≤ 2 ^ 52 := Nat.pow_le_pow_right (by decide) (by omega); omega, ⟨fun _ => HI.out.done (by omega), by simp⟩, by omega, ?_, grown_trans (grown_ext _ _ _) (grown_set _ _ _)⟩
        have h := blk_set (blk_ext (x := x2) HC.out) 1 (.int .i64 ((i + j : Nat) : Int))
        simpa [Cu] using h
end Go.Proofs.Qxb6500680aGreatDoor
