import Derived.Test.Qxb6500680aGreatDoorCf
namespace Go.Proofs.Qxb6500680aGreatDoor
open Go.RowKit Go.BigFrame
set_option linter.unusedSimpArgs false
attribute [local go_sem] ext_cell_if ext_frozen_if alloc_cell_if alloc_frozen_if ext_size ext_ext
theorem Ps.stepK {cb bx : Nat} {fm : Array Value} {s : ByteArray} {w0 w w' : World} {i i' : Nat} (h : Ps cb bx fm s w0 w i) (hk : CuK cb s i' w w') : Ps cb bx fm s w0 w' i' := by
  obtain ⟨hi', hc, hg⟩ := hk
  exact ⟨hi', hc, (hg.block bx (lt_of_cells h.box) (by simpa using h.ne)).trans h.box, h.ne, grown_trans h.gr hg⟩
theorem Ps.doneK {cb bx : Nat} {fm : Array Value} {s : ByteArray} {w0 w : World} {i : Nat} (h : Ps cb bx fm s w0 w i) : CuK cb s i w0 w := ⟨h.le, h.cu, h.gr⟩
/-- A value and no error, or an error. -/
def ParR (r : Option (Int × List UInt8)) (er : Value) (v : Int) (t' : List UInt8) : Prop := (er = .nilIface ∧ r = some (v, t')) ∨ (ErrV er ∧ r = none)
def ParX (cb : Nat) (s : ByteArray) (r : Option (Int × List UInt8)) (w : World) (e : Ending) (w' : World) : Prop := ∃ (v : Int) (er : Value) (i' : Nat), e = .returned (.tuple #[.int .u64 v, er]) ∧ InR .u64 v ∧ ParR r er v (At s i') ∧ CuK cb s i' w w'
/-! What the parser reckons, in the machine's own operations. -/
def nanW (FM EM : Int) (H : Nat) (t : List UInt8) : Option (Int × List UInt8) :=
  (hexP H t).bind fun x => if x.1 = 0 ∨ FM < (x.1 : Int) then none else (strip [41] x.2).map fun r => (bits .or .u64 EM x.1, r)
theorem nan1 {FM EM : Int} {H : Nat} {t : List UInt8} (h : hexP H t = none) : nanW FM EM H t = none := by unfold nanW; rw [h]; rfl
theorem nan2 {FM EM : Int} {H : Nat} {t r : List UInt8} {v : Nat} (h : hexP H t = some (v, r)) (h1 : v = 0 ∨ FM < (v : Int)) : nanW FM EM H t = none := by unfold nanW; rw [h, Option.bind_some, if_pos h1]
theorem nan3 {FM EM : Int} {H : Nat} {t r : List UInt8} {v : Nat} (h : hexP H t = some (v, r)) (h1 : v ≠ 0) (h2 : ¬ FM < (v : Int)) (h3 : strip [41] r = none) : nanW FM EM H t = none := by
  unfold nanW; rw [h, Option.bind_some, if_neg (by simp only [not_or]; exact ⟨h1, h2⟩)]; simp [h3]
theorem nan4 {FM EM : Int} {H : Nat} {t r r' : List UInt8} {v : Nat} (h : hexP H t = some (v, r)) (h1 : v ≠ 0) (h2 : ¬ FM < (v : Int)) (h3 : strip [41] r = some r') : nanW FM EM H t = some (bits .or .u64 EM v, r') := by
  unfold nanW; rw [h, Option.bind_some, if_neg (by simp only [not_or]; exact ⟨h1, h2⟩)]; simp [h3]
/-- Bits under the fraction. -/
def zbW (PD : Nat) (v : Int) : Bool := (bits BinOp.and IntKind.u64 v (IntKind.u64.wrap (IntKind.u64.wrap (2 ^ min PD 64) - 1)) != 0)
/-- The magnitude of a normal value. -/
def nmW (F : Nat) (BI e fr : Int) : Int := bits .or .u64 (IntKind.u64.wrap (IntKind.u64.wrap (wrap64 (e + BI)) * 2 ^ min F 64)) fr
def finQW (F : Nat) (BI EI XI : Int) (H PD : Nat) (nb : Bool) (t : List UInt8) : Option (Int × List UInt8) :=
  (hexP H t).bind fun x => if zbW PD x.1 = true then none else if nb = false ∧ (x.1 : Int) / 2 ^ min PD 64 = 0 then none else
    (strip [112] x.2).bind fun r => (expP r).bind fun y =>
      if nb then (if y.1 < EI ∨ XI < y.1 then none else some (nmW F BI y.1 ((x.1 : Int) / 2 ^ min PD 64), y.2))
      else if y.1 ≠ EI then none else some ((x.1 : Int) / 2 ^ min PD 64, y.2)
def finW (F : Nat) (BI EI XI : Int) (H PD : Nat) (t : List UInt8) : Option (Int × List UInt8) :=
  match strip [48, 46] t with
  | some r => finQW F BI EI XI H PD false r
  | none => match strip [49, 46] t with
    | some r => finQW F BI EI XI H PD true r
    | none => none
section
variable {F : Nat} {BI EI XI : Int} {H PD : Nat}
theorem fin0 {t : List UInt8} (h1 : strip [48, 46] t = none) (h2 : strip [49, 46] t = none) : finW F BI EI XI H PD t = none := by unfold finW; rw [h1, h2]
def FnR (t : List UInt8) (nb : Bool) (t' : List UInt8) : Prop := (nb = false ∧ strip [48, 46] t = some t') ∨ (nb = true ∧ strip [48, 46] t = none ∧ strip [49, 46] t = some t')
theorem FnR.go {t t' : List UInt8} {nb : Bool} (h : FnR t nb t') : finW F BI EI XI H PD t = finQW F BI EI XI H PD nb t' := by
  unfold finW
  rcases h with ⟨rfl, h⟩ | ⟨rfl, h1, h2⟩
  · rw [h]
  · rw [h1, h2]
variable {t r r' r2 : List UInt8} {nb : Bool} {v : Nat} {e : Int}
theorem fq1 (h : hexP H t = none) : finQW F BI EI XI H PD nb t = none := by unfold finQW; rw [h]; rfl
theorem fq2 (h : hexP H t = some (v, r)) (h1 : zbW PD v = true) : finQW F BI EI XI H PD nb t = none := by unfold finQW; rw [h, Option.bind_some, if_pos h1]
theorem fq3 (h : hexP H t = some (v, r)) (h2 : (v : Int) / 2 ^ min PD 64 = 0) : finQW F BI EI XI H PD false t = none := by
  unfold finQW; rw [h, Option.bind_some]
  by_cases h1 : zbW PD v = true
  · rw [if_pos h1]
  · rw [if_neg h1, if_pos ⟨rfl, h2⟩]
theorem fq (h : hexP H t = some (v, r)) (h1 : zbW PD v = false) (h2 : nb = false → (v : Int) / 2 ^ min PD 64 ≠ 0) : finQW F BI EI XI H PD nb t = (strip [112] r).bind fun r => (expP r).bind fun y =>
      if nb then (if y.1 < EI ∨ XI < y.1 then none else some (nmW F BI y.1 ((v : Int) / 2 ^ min PD 64), y.2))
      else if y.1 ≠ EI then none else some ((v : Int) / 2 ^ min PD 64, y.2) := by
  unfold finQW; rw [h, Option.bind_some, if_neg (by simp [h1]), if_neg (by rintro ⟨a, b⟩; exact h2 a b)]
theorem fq4 (h : hexP H t = some (v, r)) (h1 : zbW PD v = false) (h2 : nb = false → (v : Int) / 2 ^ min PD 64 ≠ 0) (h3 : strip [112] r = none) : finQW F BI EI XI H PD nb t = none := by rw [fq h h1 h2, h3]; rfl
theorem fq5 (h : hexP H t = some (v, r)) (h1 : zbW PD v = false) (h2 : nb = false → (v : Int) / 2 ^ min PD 64 ≠ 0) (h3 : strip [112] r = some r') (h4 : expP r' = none) : finQW F BI EI XI H PD nb t = none := by rw [fq h h1 h2, h3, Option.bind_some, h4]; rfl
theorem fq6 (h : hexP H t = some (v, r)) (h1 : zbW PD v = false) (h2 : (v : Int) / 2 ^ min PD 64 ≠ 0) (h3 : strip [112] r = some r') (h4 : expP r' = some (e, r2)) (h5 : e ≠ EI) : finQW F BI EI XI H PD false t = none := by rw [fq h h1 (fun _ => h2), h3, Option.bind_some, h4]; simp [h5]
theorem fq7 (h : hexP H t = some (v, r)) (h1 : zbW PD v = false) (h2 : (v : Int) / 2 ^ min PD 64 ≠ 0) (h3 : strip [112] r = some r') (h4 : expP r' = some (e, r2)) (h5 : e = EI) : finQW F BI EI XI H PD false t = some ((v : Int) / 2 ^ min PD 64, r2) := by rw [fq h h1 (fun _ => h2), h3, Option.bind_some, h4]; simp [h5]
theorem fq8 (h : hexP H t = some (v, r)) (h1 : zbW PD v = false) (h3 : strip [112] r = some r') (h4 : expP r' = some (e, r2)) (h5 : e < EI ∨ XI < e) : finQW F BI EI XI H PD true t = none := by rw [fq h h1 (fun h => by cases h), h3, Option.bind_some, h4]; simp [h5]
theorem fq9 (h : hexP H t = some (v, r)) (h1 : zbW PD v = false) (h3 : strip [112] r = some r') (h4 : expP r' = some (e, r2)) (h5 : ¬ e < EI) (h6 : ¬ XI < e) : finQW F BI EI XI H PD true t = some (nmW F BI e ((v : Int) / 2 ^ min PD 64), r2) := by rw [fq h h1 (fun h => by cases h), h3, Option.bind_some, h4]; simp [h5, h6]
end
def magW (F : Nat) (FM EM BI EI XI : Int) (H PD : Nat) (t : List UInt8) : Option (Int × List UInt8) :=
  match strip [105, 110, 102] t with
  | some r => some (EM, r)
  | none => match strip [110, 97, 110, 40, 48, 120] t with
    | some r => nanW FM EM H r
    | none => match strip [48, 120, 48, 112, 43, 48] t with
      | some r => some (0, r)
      | none => match strip [48, 120] t with
        | some r => finW F BI EI XI H PD r
        | none => none
section
variable {F : Nat} {FM EM BI EI XI : Int} {H PD : Nat} {t r : List UInt8}
theorem mg1 (h1 : strip [105, 110, 102] t = some r) : magW F FM EM BI EI XI H PD t = some (EM, r) := by unfold magW; rw [h1]
theorem mg2 (h1 : strip [105, 110, 102] t = none) (h2 : strip [110, 97, 110, 40, 48, 120] t = some r) : magW F FM EM BI EI XI H PD t = nanW FM EM H r := by unfold magW; rw [h1, h2]
theorem mg3 (h1 : strip [105, 110, 102] t = none) (h2 : strip [110, 97, 110, 40, 48, 120] t = none) (h3 : strip [48, 120, 48, 112, 43, 48] t = some r) : magW F FM EM BI EI XI H PD t = some (0, r) := by unfold magW; rw [h1, h2, h3]
theorem mg4 (h1 : strip [105, 110, 102] t = none) (h2 : strip [110, 97, 110, 40, 48, 120] t = none) (h3 : strip [48, 120, 48, 112, 43, 48] t = none) (h4 : strip [48, 120] t = some r) : magW F FM EM BI EI XI H PD t = finW F BI EI XI H PD r := by unfold magW; rw [h1, h2, h3, h4]
theorem mg5 (h1 : strip [105, 110, 102] t = none) (h2 : strip [110, 97, 110, 40, 48, 120] t = none) (h3 : strip [48, 120, 48, 112, 43, 48] t = none) (h4 : strip [48, 120] t = none) : magW F FM EM BI EI XI H PD t = none := by unfold magW; rw [h1, h2, h3, h4]
end
def endW (ws : Int → Bool → Int) (m : Option (Int × List UInt8)) (neg : Bool) : Option Int := m.bind fun x => if x.2 = [] then some (ws x.1 neg) else none
def parseW (F : Nat) (FM EM BI EI XI : Int) (H PD : Nat) (ws : Int → Bool → Int) (s : List UInt8) : Option Int :=
  match strip [43] s with
  | some t => endW ws (magW F FM EM BI EI XI H PD t) false
  | none => match strip [45] s with
    | some t => endW ws (magW F FM EM BI EI XI H PD t) true
    | none => none
section
variable {F : Nat} {FM EM BI EI XI : Int} {H PD : Nat} {ws : Int → Bool → Int} {s t : List UInt8} {nb : Bool}
theorem SgR.go (h : SgR s nb t) : parseW F FM EM BI EI XI H PD ws s = endW ws (magW F FM EM BI EI XI H PD t) nb := by
  unfold parseW
  rcases h with ⟨rfl, h⟩ | ⟨rfl, h1, h2⟩
  · rw [h]
  · rw [h1, h2]
theorem pw0 (h1 : strip [43] s = none) (h2 : strip [45] s = none) : parseW F FM EM BI EI XI H PD ws s = none := by unfold parseW; rw [h1, h2]
end
set_option maxRecDepth 100000 in
set_option maxHeartbeats 4000000 in
theorem parseNaN_eq {W E F : Nat} {MM FM EM HB BI EI XI : Int} {H PD : Nat} (fc : Fc W E F MM FM EM HB BI EI XI H PD) (cb : Nat) (s : ByteArray) (i : Nat) (hs : s.size ≤ 100) (hi : i ≤ s.size) (w : World) (hc : Cu cb s i w) : Calls Tryz.prog 86 #[.agg #[.int .u64 W, .int .u64 E, .int .u64 F], .pointer (some ⟨cb, 0, none⟩)] w (ParX cb s (nanW FM EM H (At s i)) w) := by
  have hcl := lt_of_cells hc
  obtain ⟨bx, hbx⟩ : ∃ bx, bx = w.heap.size := ⟨_, rfl⟩
  have T0 : Hid (Ps cb bx #[.int .u64 W, .int .u64 E, .int .u64 F] s w (w.alloc (.cells #[.int .u64 W, .int .u64 E, .int .u64 F] 35)) i) := hidden (by subst hbx; exact ⟨hi, blk_alloc hc, heap_new _ _, by omega, grown_alloc _ _ _⟩)
  have LIT := hidden (fun (lit : ByteArray) (i : Nat) (w : World) (hl : lit.size ≤ 100) (hi : i ≤ s.size) (hc : Cu cb s i w) => literal_eq cb s lit i hs hi hl w hc)
  have FAIL := hidden (fun (r : ByteArray) (i : Nat) (w : World) (hc : Cu cb s i w) => fail_any cb s r i w hc)
  have HEX := hidden (fun (i : Nat) (w : World) (hi : i ≤ s.size) (hc : Cu cb s i w) => hex_eq cb s i H hs hi fc.hH w hc)
  have C186 := hidden fc.c186
  have C156 := hidden fc.c156
  have C85 := hidden fc.c85
  clear fc hc hcl
  go_enter Tryz.func86, Tryz.ntmps86
  go_upto_region 1 with (fail)
  simp only [← hbx]
  refine wp_gen (fun w1 => Ps cb bx #[.int .u64 W, .int .u64 E, .int .u64 F] s w w1 i) T0.out ?_
  intro w1 t1
  clear hbx T0
  have T1 := hidden t1
  have k0 : w1.cell? ⟨cb, 0, none⟩ = some (.string s) := cell_of_cells t1.cu 0
  have k1 : w1.cell? ⟨cb, 1, none⟩ = some (.int .i64 i) := cell_of_cells t1.cu 1
  have m1 := mark_of_cells t1.cu 1
  have hlt := lt_of_cells t1.cu
  have f0 : w1.cell? ⟨bx, 0, none⟩ = some (.int .u64 W) := cell_of_cells t1.box 0
  have f1 : w1.cell? ⟨bx, 1, none⟩ = some (.int .u64 E) := cell_of_cells t1.box 1
  have f2 : w1.cell? ⟨bx, 2, none⟩ = some (.int .u64 F) := cell_of_cells t1.box 2
  have hbl := lt_of_cells t1.box
  have hle := t1.le
  clear t1
  go_upto_if 21 with (first | (go_at_call 186; (with_reducible refine (C186.out _).mono ?_); rintro _ _ ⟨rfl, x2, rfl⟩) | (go_at_call 190; (with_reducible refine (HEX.out _ _ hle (T1.out.ext _).cu).mono ?_); rintro _ w2 ⟨v, b2, i2, rfl, hv, hr2, hk⟩; have t2 := ((T1.out.ext _)).stepK hk; have HV := hidden (nat_in v hv); have R2 := hidden hr2; clear hk hv hr2))
  clear k0 k1 m1 hlt f0 f1 f2 hbl hle
  have T2 := hidden t2
  have k0 : w2.cell? ⟨cb, 0, none⟩ = some (.string s) := cell_of_cells t2.cu 0
  have k1 : w2.cell? ⟨cb, 1, none⟩ = some (.int .i64 i2) := cell_of_cells t2.cu 1
  have m1 := mark_of_cells t2.cu 1
  have hlt := lt_of_cells t2.cu
  have f0 : w2.cell? ⟨bx, 0, none⟩ = some (.int .u64 W) := cell_of_cells t2.box 0
  have f1 : w2.cell? ⟨bx, 1, none⟩ = some (.int .u64 E) := cell_of_cells t2.box 1
  have f2 : w2.cell? ⟨bx, 2, none⟩ = some (.int .u64 F) := cell_of_cells t2.box 2
  have hbl := lt_of_cells t2.box
  have hle := t2.le
  clear t2
  cases b2
  · go_wp2_with (go_at_call 84; (with_reducible refine (FAIL.out _ _ _ T2.out.cu).mono ?_); rintro _ _ ⟨er, rfl, her, x9, rfl⟩)
    go_ret2
    exact ⟨0, er, i2, rfl, u64_in _ (by decide) (by decide), .inr ⟨her, nan1 (R2.out.2 rfl)⟩, (T2.out.ext _).doneK⟩
  · obtain ⟨z, hz⟩ : ∃ z, ((v : Int) == 0) = z := ⟨_, rfl⟩
    have HZ := hidden hz
    cases z
    · by_cases c1 : FM < (v : Int)
      · have d1 : decide (FM < (v : Int)) = true := by simpa using c1
        go_wp2_with (first | (go_at_call 156; (with_reducible refine (C156.out _).mono ?_); rintro _ _ ⟨rfl, x3, rfl⟩) | (go_at_call 84; (with_reducible refine (FAIL.out _ _ _ ((T2.out.ext _).set i hi).cu).mono ?_); rintro _ _ ⟨er, rfl, her, x9, rfl⟩))
        go_ret2
        exact ⟨0, er, i, rfl, u64_in _ (by decide) (by decide), .inr ⟨her, nan2 (R2.out.1 rfl) (.inr c1)⟩, (((T2.out.ext _).set i hi).ext _).doneK⟩
      · have d1 : decide (FM < (v : Int)) = false := by simpa using c1
        go_upto_if 40 with (first | (go_at_call 156; (with_reducible refine (C156.out _).mono ?_); rintro _ _ ⟨rfl, x3, rfl⟩) | (go_at_call 83; (with_reducible refine (LIT.out _ _ _ (by decide) hle (T2.out.ext _).cu).mono ?_); rintro _ w3 ⟨b3, i3, rfl, hr3, hk⟩; have t3 := ((T2.out.ext _)).stepK hk; have R3 := hidden hr3; clear hk hr3))
        clear k0 k1 m1 hlt f0 f1 f2 hbl hle
        have T3 := hidden t3
        have k0 : w3.cell? ⟨cb, 0, none⟩ = some (.string s) := cell_of_cells t3.cu 0
        have k1 : w3.cell? ⟨cb, 1, none⟩ = some (.int .i64 i3) := cell_of_cells t3.cu 1
        have m1 := mark_of_cells t3.cu 1
        have hlt := lt_of_cells t3.cu
        have f0 : w3.cell? ⟨bx, 0, none⟩ = some (.int .u64 W) := cell_of_cells t3.box 0
        have f1 : w3.cell? ⟨bx, 1, none⟩ = some (.int .u64 E) := cell_of_cells t3.box 1
        have f2 : w3.cell? ⟨bx, 2, none⟩ = some (.int .u64 F) := cell_of_cells t3.box 2
        have hbl := lt_of_cells t3.box
        have hle := t3.le
        clear t3
        cases b3
        · go_wp2_with (go_at_call 84; (with_reducible refine (FAIL.out _ _ _ T3.out.cu).mono ?_); rintro _ _ ⟨er, rfl, her, x9, rfl⟩)
          go_ret2
          exact ⟨0, er, i3, rfl, u64_in _ (by decide) (by decide), .inr ⟨her, nan3 (R2.out.1 rfl) (by simpa using HZ.out) (by omega) (R3.out.2 rfl).1⟩, (T3.out.ext _).doneK⟩
        · go_wp2_with (go_at_call 85; (with_reducible refine (C85.out _).mono ?_); rintro _ _ ⟨rfl, x4, rfl⟩)
          go_ret2
          exact ⟨_, .nilIface, i3, rfl, bits_in _ _ _, .inl ⟨rfl, nan4 (R2.out.1 rfl) (by simpa using HZ.out) (by omega) (R3.out.1 rfl)⟩, (T3.out.ext _).doneK⟩
    · go_wp2_with (go_at_call 84; (with_reducible refine (FAIL.out _ _ _ (T2.out.set i hi).cu).mono ?_); rintro _ _ ⟨er, rfl, her, x9, rfl⟩)
      go_ret2
      exact ⟨0, er, i, rfl, u64_in _ (by decide) (by decide), .inr ⟨her, nan2 (R2.out.1 rfl) (.inl (by simpa using HZ.out))⟩, ((T2.out.set i hi).ext _).doneK⟩
set_option maxRecDepth 100000 in
set_option maxHeartbeats 4000000 in
theorem parseFinite_eq {W E F : Nat} {MM FM EM HB BI EI XI : Int} {H PD : Nat} (fc : Fc W E F MM FM EM HB BI EI XI H PD) (cb : Nat) (s : ByteArray) (i : Nat) (hs : s.size ≤ 100) (hi : i ≤ s.size) (w : World) (hc : Cu cb s i w) : Calls Tryz.prog 87 #[.agg #[.int .u64 W, .int .u64 E, .int .u64 F], .pointer (some ⟨cb, 0, none⟩)] w (ParX cb s (finW F BI EI XI H PD (At s i)) w) := by
  have hcl := lt_of_cells hc
  obtain ⟨bx, hbx⟩ : ∃ bx, bx = w.heap.size := ⟨_, rfl⟩
  have T0 : Hid (Ps cb bx #[.int .u64 W, .int .u64 E, .int .u64 F] s w (w.alloc (.cells #[.int .u64 W, .int .u64 E, .int .u64 F] 35)) i) := hidden (by subst hbx; exact ⟨hi, blk_alloc hc, heap_new _ _, by omega, grown_alloc _ _ _⟩)
  have LIT := hidden (fun (lit : ByteArray) (i : Nat) (w : World) (hl : lit.size ≤ 100) (hi : i ≤ s.size) (hc : Cu cb s i w) => literal_eq cb s lit i hs hi hl w hc)
  have FAIL := hidden (fun (r : ByteArray) (i : Nat) (w : World) (hc : Cu cb s i w) => fail_any cb s r i w hc)
  have HEX := hidden (fun (i : Nat) (w : World) (hi : i ≤ s.size) (hc : Cu cb s i w) => hex_eq cb s i H hs hi fc.hH w hc)
  have EXP := hidden (fun (i : Nat) (w : World) (hi : i ≤ s.size) (hc : Cu cb s i w) => exponent_eq cb s i hs hi w hc)
  have C186 := hidden fc.c186
  have C188 := hidden fc.c188
  have C187 := hidden fc.c187
  have C192 := hidden fc.c192
  have C145 := hidden fc.c145
  clear fc hc hcl
  go_enter Tryz.func87, Tryz.ntmps87
  go_upto_region 1 with (fail)
  simp only [← hbx]
  refine wp_gen (fun w1 => Ps cb bx #[.int .u64 W, .int .u64 E, .int .u64 F] s w w1 i) T0.out ?_
  intro w1 t1
  clear hbx T0
  have T1 := hidden t1
  have k0 : w1.cell? ⟨cb, 0, none⟩ = some (.string s) := cell_of_cells t1.cu 0
  have k1 : w1.cell? ⟨cb, 1, none⟩ = some (.int .i64 i) := cell_of_cells t1.cu 1
  have m1 := mark_of_cells t1.cu 1
  have hlt := lt_of_cells t1.cu
  have f0 : w1.cell? ⟨bx, 0, none⟩ = some (.int .u64 W) := cell_of_cells t1.box 0
  have f1 : w1.cell? ⟨bx, 1, none⟩ = some (.int .u64 E) := cell_of_cells t1.box 1
  have f2 : w1.cell? ⟨bx, 2, none⟩ = some (.int .u64 F) := cell_of_cells t1.box 2
  have hbl := lt_of_cells t1.box
  have hle := t1.le
  clear t1
  go_upto_block 0 with (fail)
  go_cut [6] (fun s6 wc => ∃ (nb : Bool) (i' : Nat), s6 = .bool nb ∧ FnR (At s i) nb (At s i') ∧ Ps cb bx #[.int .u64 W, .int .u64 E, .int .u64 F] s w wc i')
  case first =>
    go_upto_if 15 with (go_at_call 83; (with_reducible refine (LIT.out _ _ _ (by decide) hle T1.out.cu).mono ?_); rintro _ w2 ⟨b2, i2, rfl, hr2, hk⟩; have t2 := (T1.out).stepK hk; have R2 := hidden hr2; clear hk hr2)
    clear k0 k1 m1 hlt f0 f1 f2 hbl hle
    have T2 := hidden t2
    have k0 : w2.cell? ⟨cb, 0, none⟩ = some (.string s) := cell_of_cells t2.cu 0
    have k1 : w2.cell? ⟨cb, 1, none⟩ = some (.int .i64 i2) := cell_of_cells t2.cu 1
    have m1 := mark_of_cells t2.cu 1
    have hlt := lt_of_cells t2.cu
    have f0 : w2.cell? ⟨bx, 0, none⟩ = some (.int .u64 W) := cell_of_cells t2.box 0
    have f1 : w2.cell? ⟨bx, 1, none⟩ = some (.int .u64 E) := cell_of_cells t2.box 1
    have f2 : w2.cell? ⟨bx, 2, none⟩ = some (.int .u64 F) := cell_of_cells t2.box 2
    have hbl := lt_of_cells t2.box
    have hle := t2.le
    clear t2
    cases b2
    · go_upto_if 18 with (go_at_call 83; (with_reducible refine (LIT.out _ _ _ (by decide) hle T2.out.cu).mono ?_); rintro _ w3 ⟨b3, i3, rfl, hr3, hk⟩; have t3 := (T2.out).stepK hk; have R3 := hidden hr3; clear hk hr3)
      clear k0 k1 m1 hlt f0 f1 f2 hbl hle
      have T3 := hidden t3
      have k0 : w3.cell? ⟨cb, 0, none⟩ = some (.string s) := cell_of_cells t3.cu 0
      have k1 : w3.cell? ⟨cb, 1, none⟩ = some (.int .i64 i3) := cell_of_cells t3.cu 1
      have m1 := mark_of_cells t3.cu 1
      have hlt := lt_of_cells t3.cu
      have f0 : w3.cell? ⟨bx, 0, none⟩ = some (.int .u64 W) := cell_of_cells t3.box 0
      have f1 : w3.cell? ⟨bx, 1, none⟩ = some (.int .u64 E) := cell_of_cells t3.box 1
      have f2 : w3.cell? ⟨bx, 2, none⟩ = some (.int .u64 F) := cell_of_cells t3.box 2
      have hbl := lt_of_cells t3.box
      have hle := t3.le
      clear t3
      cases b3
      · go_wp2_with (go_at_call 84; (with_reducible refine (FAIL.out _ _ _ T3.out.cu).mono ?_); rintro _ _ ⟨er, rfl, her, x9, rfl⟩)
        go_ret2
        exact ⟨0, er, i3, rfl, u64_in _ (by decide) (by decide), .inr ⟨her, fin0 (R2.out.2 rfl).1 ((R2.out.2 rfl).2 ▸ (R3.out.2 rfl).1)⟩, (T3.out.ext _).doneK⟩
      · go_wp2_with (fail)
        go_meet
        case rel => exact ⟨true, i3, rfl, .inr ⟨rfl, (R2.out.2 rfl).1, (R2.out.2 rfl).2 ▸ R3.out.1 rfl⟩, T3.out⟩
    · go_wp2_with (fail)
      go_meet
      case rel => exact ⟨false, i2, rfl, .inl ⟨rfl, R2.out.1 rfl⟩, T2.out⟩
  case rest =>
    obtain ⟨nb, i4, rfl, hfn, t4⟩ := hcut
    have FN := hidden (hfn.go (F := F) (BI := BI) (EI := EI) (XI := XI) (H := H) (PD := PD))
    clear hfn
    clear k0 k1 m1 hlt f0 f1 f2 hbl hle
    have T4 := hidden t4
    have k0 : wc.cell? ⟨cb, 0, none⟩ = some (.string s) := cell_of_cells t4.cu 0
    have k1 : wc.cell? ⟨cb, 1, none⟩ = some (.int .i64 i4) := cell_of_cells t4.cu 1
    have m1 := mark_of_cells t4.cu 1
    have hlt := lt_of_cells t4.cu
    have f0 : wc.cell? ⟨bx, 0, none⟩ = some (.int .u64 W) := cell_of_cells t4.box 0
    have f1 : wc.cell? ⟨bx, 1, none⟩ = some (.int .u64 E) := cell_of_cells t4.box 1
    have f2 : wc.cell? ⟨bx, 2, none⟩ = some (.int .u64 F) := cell_of_cells t4.box 2
    have hbl := lt_of_cells t4.box
    have hle := t4.le
    clear t4
    have hi4 := hle
    go_upto_if 33 with (first | (go_at_call 186; (with_reducible refine (C186.out _).mono ?_); rintro _ _ ⟨rfl, x5, rfl⟩) | (go_at_call 190; (with_reducible refine (HEX.out _ _ hle (T4.out.ext _).cu).mono ?_); rintro _ w5 ⟨v, b5, i5, rfl, hv, hr5, hk⟩; have t5 := ((T4.out.ext _)).stepK hk; have HV := hidden (nat_in v hv); have R5 := hidden hr5; clear hk hv hr5))
    clear k0 k1 m1 hlt f0 f1 f2 hbl hle
    have T5 := hidden t5
    have k0 : w5.cell? ⟨cb, 0, none⟩ = some (.string s) := cell_of_cells t5.cu 0
    have k1 : w5.cell? ⟨cb, 1, none⟩ = some (.int .i64 i5) := cell_of_cells t5.cu 1
    have m1 := mark_of_cells t5.cu 1
    have hlt := lt_of_cells t5.cu
    have f0 : w5.cell? ⟨bx, 0, none⟩ = some (.int .u64 W) := cell_of_cells t5.box 0
    have f1 : w5.cell? ⟨bx, 1, none⟩ = some (.int .u64 E) := cell_of_cells t5.box 1
    have f2 : w5.cell? ⟨bx, 2, none⟩ = some (.int .u64 F) := cell_of_cells t5.box 2
    have hbl := lt_of_cells t5.box
    have hle := t5.le
    clear t5
    cases b5
    · go_wp2_with (go_at_call 84; (with_reducible refine (FAIL.out _ _ _ T5.out.cu).mono ?_); rintro _ _ ⟨er, rfl, her, x9, rfl⟩)
      go_ret2
      exact ⟨0, er, i5, rfl, u64_in _ (by decide) (by decide), .inr ⟨her, FN.out.trans (fq1 (R5.out.2 rfl))⟩, (T5.out.ext _).doneK⟩
    · go_upto_if 43 with (go_at_call 188; (with_reducible refine (C188.out _).mono ?_); rintro _ _ ⟨rfl, x6, rfl⟩)
      obtain ⟨z1, hz1⟩ : ∃ z, zbW PD (v : Int) = z := ⟨_, rfl⟩
      have HZ1 := hidden hz1
      unfold zbW at hz1
      simp only [hz1]
      clear hz1
      cases z1
      · have HFR := hidden (shr_in2 v (min PD 64) HV.out)
        obtain ⟨fr, hfr⟩ : ∃ fr, (v : Int) / 2 ^ min PD 64 = fr := ⟨_, rfl⟩
        simp only [hfr] at HFR
        have HFF := hidden hfr
        obtain ⟨z2, hz2⟩ : ∃ z, (fr == 0) = z := ⟨_, rfl⟩
        have HZ2 := hidden hz2
        cases nb
        · cases z2
          · go_upto_region 18 with (fail)
            go_upto_if 67 with (go_at_call 83; (with_reducible refine (LIT.out _ _ _ (by decide) hle (T5.out.ext _).cu).mono ?_); rintro _ w7 ⟨b7, i7, rfl, hr7, hk⟩; have t7 := ((T5.out.ext _)).stepK hk; have R7 := hidden hr7; clear hk hr7)
            clear k0 k1 m1 hlt f0 f1 f2 hbl hle
            have T7 := hidden t7
            have k0 : w7.cell? ⟨cb, 0, none⟩ = some (.string s) := cell_of_cells t7.cu 0
            have k1 : w7.cell? ⟨cb, 1, none⟩ = some (.int .i64 i7) := cell_of_cells t7.cu 1
            have m1 := mark_of_cells t7.cu 1
            have hlt := lt_of_cells t7.cu
            have f0 : w7.cell? ⟨bx, 0, none⟩ = some (.int .u64 W) := cell_of_cells t7.box 0
            have f1 : w7.cell? ⟨bx, 1, none⟩ = some (.int .u64 E) := cell_of_cells t7.box 1
            have f2 : w7.cell? ⟨bx, 2, none⟩ = some (.int .u64 F) := cell_of_cells t7.box 2
            have hbl := lt_of_cells t7.box
            have hle := t7.le
            clear t7
            cases b7
            · go_wp2_with (go_at_call 84; (with_reducible refine (FAIL.out _ _ _ T7.out.cu).mono ?_); rintro _ _ ⟨er, rfl, her, x9, rfl⟩)
              go_ret2
              exact ⟨0, er, i7, rfl, u64_in _ (by decide) (by decide), .inr ⟨her, FN.out.trans (fq4 (R5.out.1 rfl) HZ1.out (fun _ => (by rw [HFF.out]; simpa using HZ2.out)) (R7.out.2 rfl).1)⟩, (T7.out.ext _).doneK⟩
            · go_upto_if 80 with (go_at_call 191; (with_reducible refine (EXP.out _ _ hle T7.out.cu).mono ?_); rintro _ w8 ⟨ex, b8, i8, rfl, hr8, hk⟩; have t8 := (T7.out).stepK hk; have R8 := hidden hr8; clear hk hr8)
              have hi7 := hle
              clear k0 k1 m1 hlt f0 f1 f2 hbl hle
              have T8 := hidden t8
              have k0 : w8.cell? ⟨cb, 0, none⟩ = some (.string s) := cell_of_cells t8.cu 0
              have k1 : w8.cell? ⟨cb, 1, none⟩ = some (.int .i64 i8) := cell_of_cells t8.cu 1
              have m1 := mark_of_cells t8.cu 1
              have hlt := lt_of_cells t8.cu
              have f0 : w8.cell? ⟨bx, 0, none⟩ = some (.int .u64 W) := cell_of_cells t8.box 0
              have f1 : w8.cell? ⟨bx, 1, none⟩ = some (.int .u64 E) := cell_of_cells t8.box 1
              have f2 : w8.cell? ⟨bx, 2, none⟩ = some (.int .u64 F) := cell_of_cells t8.box 2
              have hbl := lt_of_cells t8.box
              have hle := t8.le
              clear t8
              cases b8
              · go_wp2_with (go_at_call 84; (with_reducible refine (FAIL.out _ _ _ T8.out.cu).mono ?_); rintro _ _ ⟨er, rfl, her, x9, rfl⟩)
                go_ret2
                exact ⟨0, er, i8, rfl, u64_in _ (by decide) (by decide), .inr ⟨her, FN.out.trans (fq5 (R5.out.1 rfl) HZ1.out (fun _ => (by rw [HFF.out]; simpa using HZ2.out)) (R7.out.1 rfl) (R8.out.2 rfl))⟩, (T8.out.ext _).doneK⟩
              · obtain ⟨z3, hz3⟩ : ∃ z, (ex != EI) = z := ⟨_, rfl⟩
                have HZ3 := hidden hz3
                cases z3
                · go_wp2_with (go_at_call 187; (with_reducible refine (C187.out _).mono ?_); rintro _ _ ⟨rfl, x10, rfl⟩)
                  go_ret2
                  exact ⟨_, .nilIface, i8, rfl, HFR.out, .inl ⟨rfl, FN.out.trans (HFF.out ▸ fq7 (R5.out.1 rfl) HZ1.out (by rw [HFF.out]; simpa using HZ2.out) (R7.out.1 rfl) (R8.out.1 rfl).1 (by simpa using HZ3.out))⟩, (T8.out.ext _).doneK⟩
                · go_wp2_with (first | (go_at_call 187; (with_reducible refine (C187.out _).mono ?_); rintro _ _ ⟨rfl, x10, rfl⟩) | (go_at_call 84; (with_reducible refine (FAIL.out _ _ _ ((T8.out.ext _).set i7 hi7).cu).mono ?_); rintro _ _ ⟨er, rfl, her, x9, rfl⟩))
                  go_ret2
                  exact ⟨0, er, i7, rfl, u64_in _ (by decide) (by decide), .inr ⟨her, FN.out.trans (fq6 (R5.out.1 rfl) HZ1.out (by rw [HFF.out]; simpa using HZ2.out) (R7.out.1 rfl) (R8.out.1 rfl).1 (by simpa using HZ3.out))⟩, (((T8.out.ext _).set i7 hi7).ext _).doneK⟩
          · go_wp2_with (go_at_call 84; (with_reducible refine (FAIL.out _ _ _ ((T5.out.ext _).set i4 hi4).cu).mono ?_); rintro _ _ ⟨er, rfl, her, x9, rfl⟩)
            go_ret2
            exact ⟨0, er, i4, rfl, u64_in _ (by decide) (by decide), .inr ⟨her, FN.out.trans (fq3 (R5.out.1 rfl) (by rw [HFF.out]; simpa using HZ2.out))⟩, (((T5.out.ext _).set i4 hi4).ext _).doneK⟩
        · go_upto_region 18 with (fail)
          go_upto_if 67 with (go_at_call 83; (with_reducible refine (LIT.out _ _ _ (by decide) hle (T5.out.ext _).cu).mono ?_); rintro _ w7 ⟨b7, i7, rfl, hr7, hk⟩; have t7 := ((T5.out.ext _)).stepK hk; have R7 := hidden hr7; clear hk hr7)
          clear k0 k1 m1 hlt f0 f1 f2 hbl hle
          have T7 := hidden t7
          have k0 : w7.cell? ⟨cb, 0, none⟩ = some (.string s) := cell_of_cells t7.cu 0
          have k1 : w7.cell? ⟨cb, 1, none⟩ = some (.int .i64 i7) := cell_of_cells t7.cu 1
          have m1 := mark_of_cells t7.cu 1
          have hlt := lt_of_cells t7.cu
          have f0 : w7.cell? ⟨bx, 0, none⟩ = some (.int .u64 W) := cell_of_cells t7.box 0
          have f1 : w7.cell? ⟨bx, 1, none⟩ = some (.int .u64 E) := cell_of_cells t7.box 1
          have f2 : w7.cell? ⟨bx, 2, none⟩ = some (.int .u64 F) := cell_of_cells t7.box 2
          have hbl := lt_of_cells t7.box
          have hle := t7.le
          clear t7
          cases b7
          · go_wp2_with (go_at_call 84; (with_reducible refine (FAIL.out _ _ _ T7.out.cu).mono ?_); rintro _ _ ⟨er, rfl, her, x9, rfl⟩)
            go_ret2
            exact ⟨0, er, i7, rfl, u64_in _ (by decide) (by decide), .inr ⟨her, FN.out.trans (fq4 (R5.out.1 rfl) HZ1.out (fun h => by cases h) (R7.out.2 rfl).1)⟩, (T7.out.ext _).doneK⟩
          · go_upto_if 80 with (go_at_call 191; (with_reducible refine (EXP.out _ _ hle T7.out.cu).mono ?_); rintro _ w8 ⟨ex, b8, i8, rfl, hr8, hk⟩; have t8 := (T7.out).stepK hk; have R8 := hidden hr8; clear hk hr8)
            have hi7 := hle
            clear k0 k1 m1 hlt f0 f1 f2 hbl hle
            have T8 := hidden t8
            have k0 : w8.cell? ⟨cb, 0, none⟩ = some (.string s) := cell_of_cells t8.cu 0
            have k1 : w8.cell? ⟨cb, 1, none⟩ = some (.int .i64 i8) := cell_of_cells t8.cu 1
            have m1 := mark_of_cells t8.cu 1
            have hlt := lt_of_cells t8.cu
            have f0 : w8.cell? ⟨bx, 0, none⟩ = some (.int .u64 W) := cell_of_cells t8.box 0
            have f1 : w8.cell? ⟨bx, 1, none⟩ = some (.int .u64 E) := cell_of_cells t8.box 1
            have f2 : w8.cell? ⟨bx, 2, none⟩ = some (.int .u64 F) := cell_of_cells t8.box 2
            have hbl := lt_of_cells t8.box
            have hle := t8.le
            clear t8
            cases b8
            · go_wp2_with (go_at_call 84; (with_reducible refine (FAIL.out _ _ _ T8.out.cu).mono ?_); rintro _ _ ⟨er, rfl, her, x9, rfl⟩)
              go_ret2
              exact ⟨0, er, i8, rfl, u64_in _ (by decide) (by decide), .inr ⟨her, FN.out.trans (fq5 (R5.out.1 rfl) HZ1.out (fun h => by cases h) (R7.out.1 rfl) (R8.out.2 rfl))⟩, (T8.out.ext _).doneK⟩
            · by_cases c3 : ex < EI
              · have d3 : decide (ex < EI) = true := by simpa using c3
                go_wp2_with (first | (go_at_call 187; (with_reducible refine (C187.out _).mono ?_); rintro _ _ ⟨rfl, x10, rfl⟩) | (go_at_call 84; (with_reducible refine (FAIL.out _ _ _ ((T8.out.ext _).set i7 hi7).cu).mono ?_); rintro _ _ ⟨er, rfl, her, x9, rfl⟩))
                go_ret2
                exact ⟨0, er, i7, rfl, u64_in _ (by decide) (by decide), .inr ⟨her, FN.out.trans (fq8 (R5.out.1 rfl) HZ1.out (R7.out.1 rfl) (R8.out.1 rfl).1 (.inl c3))⟩, (((T8.out.ext _).set i7 hi7).ext _).doneK⟩
              have d3 : decide (ex < EI) = false := by simpa using c3
              by_cases c4 : XI < ex
              · have d4 : decide (XI < ex) = true := by simpa using c4
                go_wp2_with (first | (go_at_call 187; (with_reducible refine (C187.out _).mono ?_); rintro _ _ ⟨rfl, x10, rfl⟩) | (go_at_call 192; (with_reducible refine (C192.out _).mono ?_); rintro _ _ ⟨rfl, x11, rfl⟩) | (go_at_call 84; (with_reducible refine (FAIL.out _ _ _ ((T8.out.ext _).set i7 hi7).cu).mono ?_); rintro _ _ ⟨er, rfl, her, x9, rfl⟩))
                go_ret2
                exact ⟨0, er, i7, rfl, u64_in _ (by decide) (by decide), .inr ⟨her, FN.out.trans (fq8 (R5.out.1 rfl) HZ1.out (R7.out.1 rfl) (R8.out.1 rfl).1 (.inr c4))⟩, (((T8.out.ext _).set i7 hi7).ext _).doneK⟩
              have d4 : decide (XI < ex) = false := by simpa using c4
              go_upto_region 32 with (first | (go_at_call 187; (with_reducible refine (C187.out _).mono ?_); rintro _ _ ⟨rfl, x10, rfl⟩) | (go_at_call 192; (with_reducible refine (C192.out _).mono ?_); rintro _ _ ⟨rfl, x11, rfl⟩))
              refine wp_region_ext (by kernel_rfl) (by kernel_rfl) ?_
              repeat (go_big_quiet_step ((go_at_call 145; first | with_reducible exact Calls_ext (C145.out _) | with_reducible exact Calls_ext2 (C145.out _))))
              refine wpQuiet_nil ?_
              rintro w12 ⟨x12, rfl⟩
              go_wp2_with (fail)
              go_ret2
              exact ⟨_, .nilIface, i8, rfl, bits_in _ _ _, .inl ⟨rfl, FN.out.trans (HFF.out ▸ fq9 (R5.out.1 rfl) HZ1.out (R7.out.1 rfl) (R8.out.1 rfl).1 (by omega) (by omega))⟩, ((T8.out.ext _).ext _).doneK⟩
      · go_wp2_with (go_at_call 84; (with_reducible refine (FAIL.out _ _ _ ((T5.out.ext _).set i4 hi4).cu).mono ?_); rintro _ _ ⟨er, rfl, her, x9, rfl⟩)
        go_ret2
        exact ⟨0, er, i4, rfl, u64_in _ (by decide) (by decide), .inr ⟨her, FN.out.trans (fq2 (R5.out.1 rfl) HZ1.out)⟩, (((T5.out.ext _).set i4 hi4).ext _).doneK⟩
end Go.Proofs.Qxb6500680aGreatDoor
