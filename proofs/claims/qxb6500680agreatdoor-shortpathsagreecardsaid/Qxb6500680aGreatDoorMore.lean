import Derived.Test.Qxb6500680aGreatDoorFields
namespace Go.Proofs.Qxb6500680aGreatDoor
open Go.RowKit Go.BigFrame
set_option linter.unusedSimpArgs false
attribute [local go_sem] ext_cell_if ext_frozen_if alloc_cell_if alloc_frozen_if ext_size ext_ext

/-- The kind c by the two fields. -/
def ClsEF (MB e f c : Int) : Prop := (c = 0 ∧ e = 0 ∧ f = 0) ∨ (c = 1 ∧ e = 0 ∧ 0 < f) ∨ (c = 2 ∧ 0 < e ∧ e < MB) ∨ (c = 3 ∧ e = MB ∧ f = 0) ∨ (c = 4 ∧ e = MB ∧ 0 < f)
theorem clsEF_of (MB e f : Int) (h0 : 0 < MB) (h1 : 0 ≤ e) (h2 : e ≤ MB) (h3 : 0 ≤ f) : ∃ c, ClsEF MB e f c := by
  unfold ClsEF
  by_cases a : e = 0
  · by_cases b : f = 0
    · exact ⟨0, by omega⟩
    · exact ⟨1, by omega⟩
  · by_cases d : e = MB
    · by_cases b : f = 0
      · exact ⟨3, by omega⟩
      · exact ⟨4, by omega⟩
    · exact ⟨2, by omega⟩

/-- The two formats lie in their variables. -/
structure Glob (w : World) : Prop where
  a0 : w.cell? ⟨1, 0, none⟩ = some (.int .u64 32)
  a1 : w.cell? ⟨1, 1, none⟩ = some (.int .u64 8)
  a2 : w.cell? ⟨1, 2, none⟩ = some (.int .u64 23)
  b0 : w.cell? ⟨2, 0, none⟩ = some (.int .u64 64)
  b1 : w.cell? ⟨2, 1, none⟩ = some (.int .u64 11)
  b2 : w.cell? ⟨2, 2, none⟩ = some (.int .u64 52)
theorem Glob.lt {w : World} (h : Glob w) : 2 < w.heap.size := World.block_lt_of_cell? w ⟨2, 0, none⟩ h.b0
theorem Glob.below {B : Nat} {w w' : World} (h : Glob w) (hb : Below B w w') (hB : 2 < B) : Glob w' :=
  ⟨by rw [hb.cell (p := ⟨1, 0, none⟩) (by show 1 < B; omega)]; exact h.a0, by rw [hb.cell (p := ⟨1, 1, none⟩) (by show 1 < B; omega)]; exact h.a1, by rw [hb.cell (p := ⟨1, 2, none⟩) (by show 1 < B; omega)]; exact h.a2,
   by rw [hb.cell (p := ⟨2, 0, none⟩) (by show 2 < B; omega)]; exact h.b0, by rw [hb.cell (p := ⟨2, 1, none⟩) (by show 2 < B; omega)]; exact h.b1, by rw [hb.cell (p := ⟨2, 2, none⟩) (by show 2 < B; omega)]; exact h.b2⟩
theorem Glob.gr {w w' : World} (h : Glob w) (hb : Gr w.heap.size w w') : Glob w' := h.below hb.1 h.lt

theorem cls32_of {e f c : Int} (h1 : 0 ≤ e) (h2 : e ≤ 255) (h3 : 0 ≤ f) (h4 : f ≤ 8388607) (h : ClsEF 255 e f c) : Cls 8388608 2139095040 (e * 8388608 + f) c := by
  unfold ClsEF at h; unfold Cls; omega

set_option maxHeartbeats 1000000 in
theorem isQuiet32 (p m c : Int) (q : Bool) (hm : bits .and .u64 p 2147483647 = m) (hc : Cls 8388608 2139095040 m c) (hq : (bits .and .u64 p 4194304 != 0) = q) (w : World) :
    Calls Tryz.prog 79 #[.agg #[.int .u64 32, .int .u64 8, .int .u64 23], .int .u64 p] w fun e w' => e = .returned (.bool (decide (c = 4) && q)) ∧ ∃ x, w' = ext w x := by
  by_cases h4 : c = 4
  · have h4' : decide (c = 4) = true := by simpa using h4
    have H := hc
    clear hc h4
    go_enter Tryz.func79, Tryz.ntmps79
    go_wp2_with (first | (go_at_call 78; refine (isNaN32 p m c hm H _).mono ?_; rintro e w' ⟨rfl, x, rfl⟩) | (go_at_call 173; refine (quietBit32 _).mono ?_; rintro e w' ⟨rfl, x, rfl⟩))
    go_ret
    exact ⟨by simp [h4'], Gr.of (by repeat (first | exact Gr.refl _ | refine Gr.alloc ?_ _ | refine Gr.ext ?_ _ | refine Gr.drew ?_ | refine Gr.setCell ?_ (by simp) _))⟩
  · have h4' : decide (c = 4) = false := by simpa using h4
    have H := hc
    clear hc h4
    go_enter Tryz.func79, Tryz.ntmps79
    go_wp2_with (first | (go_at_call 78; refine (isNaN32 p m c hm H _).mono ?_; rintro e w' ⟨rfl, x, rfl⟩) | (go_at_call 173; refine (quietBit32 _).mono ?_; rintro e w' ⟨rfl, x, rfl⟩))
    go_ret
    exact ⟨by simp [h4'], Gr.of (by repeat (first | exact Gr.refl _ | refine Gr.alloc ?_ _ | refine Gr.ext ?_ _ | refine Gr.drew ?_ | refine Gr.setCell ?_ (by simp) _))⟩

set_option maxHeartbeats 1000000 in
theorem isSignalling32 (p m c : Int) (q : Bool) (hm : bits .and .u64 p 2147483647 = m) (hc : Cls 8388608 2139095040 m c) (hq : (bits .and .u64 p 4194304 == 0) = !q) (w : World) :
    Calls Tryz.prog 80 #[.agg #[.int .u64 32, .int .u64 8, .int .u64 23], .int .u64 p] w fun e w' => e = .returned (.bool (decide (c = 4) && !q)) ∧ ∃ x, w' = ext w x := by
  by_cases h4 : c = 4
  · have h4' : decide (c = 4) = true := by simpa using h4
    have H := hc
    clear hc h4
    go_enter Tryz.func80, Tryz.ntmps80
    go_wp2_with (first | (go_at_call 78; refine (isNaN32 p m c hm H _).mono ?_; rintro e w' ⟨rfl, x, rfl⟩) | (go_at_call 173; refine (quietBit32 _).mono ?_; rintro e w' ⟨rfl, x, rfl⟩))
    go_ret
    exact ⟨by simp [h4'], Gr.of (by repeat (first | exact Gr.refl _ | refine Gr.alloc ?_ _ | refine Gr.ext ?_ _ | refine Gr.drew ?_ | refine Gr.setCell ?_ (by simp) _))⟩
  · have h4' : decide (c = 4) = false := by simpa using h4
    have H := hc
    clear hc h4
    go_enter Tryz.func80, Tryz.ntmps80
    go_wp2_with (first | (go_at_call 78; refine (isNaN32 p m c hm H _).mono ?_; rintro e w' ⟨rfl, x, rfl⟩) | (go_at_call 173; refine (quietBit32 _).mono ?_; rintro e w' ⟨rfl, x, rfl⟩))
    go_ret
    exact ⟨by simp [h4'], Gr.of (by repeat (first | exact Gr.refl _ | refine Gr.alloc ?_ _ | refine Gr.ext ?_ _ | refine Gr.drew ?_ | refine Gr.setCell ?_ (by simp) _))⟩

set_option maxHeartbeats 1000000 in
theorem class32 (p : Int) (neg q : Bool) (s e f : Int) (hp : Pat32 p neg q s e f)  (c : Int) (hc : ClsEF 255 e f c) (w : World) :
    Calls Tryz.prog 73 #[.agg #[.int .i64 32, .int .i64 8, .int .i64 23], .int .u64 p] w fun r w' => r = .returned (.int .u8 c) ∧ ∃ x, w' = ext w x := by
  rcases hc with ⟨rfl, rfl, rfl⟩ | ⟨rfl, rfl, h1⟩ | ⟨rfl, h1, h2⟩ | ⟨rfl, rfl, rfl⟩ | ⟨rfl, rfl, h1⟩
  case inr.inl =>
    have t0 : (f == 0) = false := by simp; omega
    have t1 : (f != 0) = true := by simp; omega
    clear h1
    have HP := hp
    clear hp
    go_enter Tryz.func73, Tryz.ntmps73
    go_wp2_with (first | (go_at_call 68; refine (fields32 p neg q s _ _ HP _).mono ?_; rintro r w' ⟨rfl, x, rfl⟩) | (go_at_call 184; refine (topExp32 _).mono ?_; rintro r w' ⟨rfl, x, rfl⟩))
    go_ret
    exact ⟨rfl, Gr.of (by repeat (first | exact Gr.refl _ | refine Gr.alloc ?_ _ | refine Gr.ext ?_ _ | refine Gr.drew ?_ | refine Gr.setCell ?_ (by simp) _))⟩
  case inr.inr.inl =>
    have t0 : (e == 0) = false := by simp; omega
    have t1 : (e == 255) = false := by simp; omega
    clear h1 h2
    have HP := hp
    clear hp
    go_enter Tryz.func73, Tryz.ntmps73
    go_wp2_with (first | (go_at_call 68; refine (fields32 p neg q s _ _ HP _).mono ?_; rintro r w' ⟨rfl, x, rfl⟩) | (go_at_call 184; refine (topExp32 _).mono ?_; rintro r w' ⟨rfl, x, rfl⟩))
    go_ret
    exact ⟨rfl, Gr.of (by repeat (first | exact Gr.refl _ | refine Gr.alloc ?_ _ | refine Gr.ext ?_ _ | refine Gr.drew ?_ | refine Gr.setCell ?_ (by simp) _))⟩
  case inr.inr.inr.inr =>
    have t0 : (f == 0) = false := by simp; omega
    have t1 : (f != 0) = true := by simp; omega
    clear h1
    have HP := hp
    clear hp
    go_enter Tryz.func73, Tryz.ntmps73
    go_wp2_with (first | (go_at_call 68; refine (fields32 p neg q s _ _ HP _).mono ?_; rintro r w' ⟨rfl, x, rfl⟩) | (go_at_call 184; refine (topExp32 _).mono ?_; rintro r w' ⟨rfl, x, rfl⟩))
    go_ret
    exact ⟨rfl, Gr.of (by repeat (first | exact Gr.refl _ | refine Gr.alloc ?_ _ | refine Gr.ext ?_ _ | refine Gr.drew ?_ | refine Gr.setCell ?_ (by simp) _))⟩
  all_goals
    have HP := hp
    clear hp
    go_enter Tryz.func73, Tryz.ntmps73
    go_wp2_with (first | (go_at_call 68; refine (fields32 p neg q s _ _ HP _).mono ?_; rintro r w' ⟨rfl, x, rfl⟩) | (go_at_call 184; refine (topExp32 _).mono ?_; rintro r w' ⟨rfl, x, rfl⟩))
    go_ret
    exact ⟨rfl, Gr.of (by repeat (first | exact Gr.refl _ | refine Gr.alloc ?_ _ | refine Gr.ext ?_ _ | refine Gr.drew ?_ | refine Gr.setCell ?_ (by simp) _))⟩

set_option maxHeartbeats 1000000 in
theorem byWidth32 (w : World) (g : Glob w) :
    Calls Tryz.prog 81 #[.int .i64 32] w fun r w' => r = .returned (.tuple #[.agg #[.int .u64 32, .int .u64 8, .int .u64 23], .nilIface]) ∧ ∃ x, w' = ext w x := by
  have hlt := g.lt
  have hlt2 : 1 < w.heap.size := by omega
  obtain ⟨a0, a1, a2, b0, b1, b2⟩ := g
  go_enter Tryz.func81, Tryz.ntmps81
  go_wp2
  exact bodyPost_ret (v := .tuple #[.agg #[.int .u64 32, .int .u64 8, .int .u64 23], .nilIface]) (by simp [results, Tryz.results81, go_sem, ↓IntWalk.iteOmega]) rfl ⟨rfl, Gr.of (by repeat (first | exact Gr.refl _ | refine Gr.alloc ?_ _ | refine Gr.ext ?_ _ | refine Gr.drew ?_ | refine Gr.setCell ?_ (by simp) _))⟩

set_option maxHeartbeats 1000000 in
theorem format32 (w : World) (g : Glob w) :
    Calls Tryz.prog 15 #[.int .i64 32] w fun r w' => r = .returned (.agg #[.int .u64 32, .int .u64 8, .int .u64 23]) ∧ ∃ x, w' = ext w x := by
  go_enter Tryz.func15, Tryz.ntmps15
  go_wp2_with (go_at_call 81; refine (byWidth32 _ (g.gr (by repeat (first | exact Gr.refl _ | refine Gr.alloc ?_ _ | refine Gr.ext ?_ _ | refine Gr.drew ?_ | refine Gr.setCell ?_ (by simp) _)))).mono ?_; rintro r w' ⟨rfl, x, rfl⟩)
  exact bodyPost_ret (v := .agg #[.int .u64 32, .int .u64 8, .int .u64 23]) (by simp [results, Tryz.results15, go_sem, ↓IntWalk.iteOmega]) rfl ⟨rfl, Gr.of (by repeat (first | exact Gr.refl _ | refine Gr.alloc ?_ _ | refine Gr.ext ?_ _ | refine Gr.drew ?_ | refine Gr.setCell ?_ (by simp) _))⟩

theorem cls64_of {e f c : Int} (h1 : 0 ≤ e) (h2 : e ≤ 2047) (h3 : 0 ≤ f) (h4 : f ≤ 4503599627370495) (h : ClsEF 2047 e f c) : Cls 4503599627370496 9218868437227405312 (e * 4503599627370496 + f) c := by
  unfold ClsEF at h; unfold Cls; omega

set_option maxHeartbeats 1000000 in
theorem isQuiet64 (p m c : Int) (q : Bool) (hm : bits .and .u64 p 9223372036854775807 = m) (hc : Cls 4503599627370496 9218868437227405312 m c) (hq : (bits .and .u64 p 2251799813685248 != 0) = q) (w : World) :
    Calls Tryz.prog 79 #[.agg #[.int .u64 64, .int .u64 11, .int .u64 52], .int .u64 p] w fun e w' => e = .returned (.bool (decide (c = 4) && q)) ∧ ∃ x, w' = ext w x := by
  by_cases h4 : c = 4
  · have h4' : decide (c = 4) = true := by simpa using h4
    have H := hc
    clear hc h4
    go_enter Tryz.func79, Tryz.ntmps79
    go_wp2_with (first | (go_at_call 78; refine (isNaN64 p m c hm H _).mono ?_; rintro e w' ⟨rfl, x, rfl⟩) | (go_at_call 173; refine (quietBit64 _).mono ?_; rintro e w' ⟨rfl, x, rfl⟩))
    go_ret
    exact ⟨by simp [h4'], Gr.of (by repeat (first | exact Gr.refl _ | refine Gr.alloc ?_ _ | refine Gr.ext ?_ _ | refine Gr.drew ?_ | refine Gr.setCell ?_ (by simp) _))⟩
  · have h4' : decide (c = 4) = false := by simpa using h4
    have H := hc
    clear hc h4
    go_enter Tryz.func79, Tryz.ntmps79
    go_wp2_with (first | (go_at_call 78; refine (isNaN64 p m c hm H _).mono ?_; rintro e w' ⟨rfl, x, rfl⟩) | (go_at_call 173; refine (quietBit64 _).mono ?_; rintro e w' ⟨rfl, x, rfl⟩))
    go_ret
    exact ⟨by simp [h4'], Gr.of (by repeat (first | exact Gr.refl _ | refine Gr.alloc ?_ _ | refine Gr.ext ?_ _ | refine Gr.drew ?_ | refine Gr.setCell ?_ (by simp) _))⟩

set_option maxHeartbeats 1000000 in
theorem isSignalling64 (p m c : Int) (q : Bool) (hm : bits .and .u64 p 9223372036854775807 = m) (hc : Cls 4503599627370496 9218868437227405312 m c) (hq : (bits .and .u64 p 2251799813685248 == 0) = !q) (w : World) :
    Calls Tryz.prog 80 #[.agg #[.int .u64 64, .int .u64 11, .int .u64 52], .int .u64 p] w fun e w' => e = .returned (.bool (decide (c = 4) && !q)) ∧ ∃ x, w' = ext w x := by
  by_cases h4 : c = 4
  · have h4' : decide (c = 4) = true := by simpa using h4
    have H := hc
    clear hc h4
    go_enter Tryz.func80, Tryz.ntmps80
    go_wp2_with (first | (go_at_call 78; refine (isNaN64 p m c hm H _).mono ?_; rintro e w' ⟨rfl, x, rfl⟩) | (go_at_call 173; refine (quietBit64 _).mono ?_; rintro e w' ⟨rfl, x, rfl⟩))
    go_ret
    exact ⟨by simp [h4'], Gr.of (by repeat (first | exact Gr.refl _ | refine Gr.alloc ?_ _ | refine Gr.ext ?_ _ | refine Gr.drew ?_ | refine Gr.setCell ?_ (by simp) _))⟩
  · have h4' : decide (c = 4) = false := by simpa using h4
    have H := hc
    clear hc h4
    go_enter Tryz.func80, Tryz.ntmps80
    go_wp2_with (first | (go_at_call 78; refine (isNaN64 p m c hm H _).mono ?_; rintro e w' ⟨rfl, x, rfl⟩) | (go_at_call 173; refine (quietBit64 _).mono ?_; rintro e w' ⟨rfl, x, rfl⟩))
    go_ret
    exact ⟨by simp [h4'], Gr.of (by repeat (first | exact Gr.refl _ | refine Gr.alloc ?_ _ | refine Gr.ext ?_ _ | refine Gr.drew ?_ | refine Gr.setCell ?_ (by simp) _))⟩

set_option maxHeartbeats 1000000 in
theorem class64 (p : Int) (neg q : Bool) (s e f : Int) (hp : Pat64 p neg q s e f)  (c : Int) (hc : ClsEF 2047 e f c) (w : World) :
    Calls Tryz.prog 73 #[.agg #[.int .i64 64, .int .i64 11, .int .i64 52], .int .u64 p] w fun r w' => r = .returned (.int .u8 c) ∧ ∃ x, w' = ext w x := by
  rcases hc with ⟨rfl, rfl, rfl⟩ | ⟨rfl, rfl, h1⟩ | ⟨rfl, h1, h2⟩ | ⟨rfl, rfl, rfl⟩ | ⟨rfl, rfl, h1⟩
  case inr.inl =>
    have t0 : (f == 0) = false := by simp; omega
    have t1 : (f != 0) = true := by simp; omega
    clear h1
    have HP := hp
    clear hp
    go_enter Tryz.func73, Tryz.ntmps73
    go_wp2_with (first | (go_at_call 68; refine (fields64 p neg q s _ _ HP _).mono ?_; rintro r w' ⟨rfl, x, rfl⟩) | (go_at_call 184; refine (topExp64 _).mono ?_; rintro r w' ⟨rfl, x, rfl⟩))
    go_ret
    exact ⟨rfl, Gr.of (by repeat (first | exact Gr.refl _ | refine Gr.alloc ?_ _ | refine Gr.ext ?_ _ | refine Gr.drew ?_ | refine Gr.setCell ?_ (by simp) _))⟩
  case inr.inr.inl =>
    have t0 : (e == 0) = false := by simp; omega
    have t1 : (e == 2047) = false := by simp; omega
    clear h1 h2
    have HP := hp
    clear hp
    go_enter Tryz.func73, Tryz.ntmps73
    go_wp2_with (first | (go_at_call 68; refine (fields64 p neg q s _ _ HP _).mono ?_; rintro r w' ⟨rfl, x, rfl⟩) | (go_at_call 184; refine (topExp64 _).mono ?_; rintro r w' ⟨rfl, x, rfl⟩))
    go_ret
    exact ⟨rfl, Gr.of (by repeat (first | exact Gr.refl _ | refine Gr.alloc ?_ _ | refine Gr.ext ?_ _ | refine Gr.drew ?_ | refine Gr.setCell ?_ (by simp) _))⟩
  case inr.inr.inr.inr =>
    have t0 : (f == 0) = false := by simp; omega
    have t1 : (f != 0) = true := by simp; omega
    clear h1
    have HP := hp
    clear hp
    go_enter Tryz.func73, Tryz.ntmps73
    go_wp2_with (first | (go_at_call 68; refine (fields64 p neg q s _ _ HP _).mono ?_; rintro r w' ⟨rfl, x, rfl⟩) | (go_at_call 184; refine (topExp64 _).mono ?_; rintro r w' ⟨rfl, x, rfl⟩))
    go_ret
    exact ⟨rfl, Gr.of (by repeat (first | exact Gr.refl _ | refine Gr.alloc ?_ _ | refine Gr.ext ?_ _ | refine Gr.drew ?_ | refine Gr.setCell ?_ (by simp) _))⟩
  all_goals
    have HP := hp
    clear hp
    go_enter Tryz.func73, Tryz.ntmps73
    go_wp2_with (first | (go_at_call 68; refine (fields64 p neg q s _ _ HP _).mono ?_; rintro r w' ⟨rfl, x, rfl⟩) | (go_at_call 184; refine (topExp64 _).mono ?_; rintro r w' ⟨rfl, x, rfl⟩))
    go_ret
    exact ⟨rfl, Gr.of (by repeat (first | exact Gr.refl _ | refine Gr.alloc ?_ _ | refine Gr.ext ?_ _ | refine Gr.drew ?_ | refine Gr.setCell ?_ (by simp) _))⟩

set_option maxHeartbeats 1000000 in
theorem byWidth64 (w : World) (g : Glob w) :
    Calls Tryz.prog 81 #[.int .i64 64] w fun r w' => r = .returned (.tuple #[.agg #[.int .u64 64, .int .u64 11, .int .u64 52], .nilIface]) ∧ ∃ x, w' = ext w x := by
  have hlt := g.lt
  have hlt2 : 1 < w.heap.size := by omega
  obtain ⟨a0, a1, a2, b0, b1, b2⟩ := g
  go_enter Tryz.func81, Tryz.ntmps81
  go_wp2
  exact bodyPost_ret (v := .tuple #[.agg #[.int .u64 64, .int .u64 11, .int .u64 52], .nilIface]) (by simp [results, Tryz.results81, go_sem, ↓IntWalk.iteOmega]) rfl ⟨rfl, Gr.of (by repeat (first | exact Gr.refl _ | refine Gr.alloc ?_ _ | refine Gr.ext ?_ _ | refine Gr.drew ?_ | refine Gr.setCell ?_ (by simp) _))⟩

set_option maxHeartbeats 1000000 in
theorem format64 (w : World) (g : Glob w) :
    Calls Tryz.prog 15 #[.int .i64 64] w fun r w' => r = .returned (.agg #[.int .u64 64, .int .u64 11, .int .u64 52]) ∧ ∃ x, w' = ext w x := by
  go_enter Tryz.func15, Tryz.ntmps15
  go_wp2_with (go_at_call 81; refine (byWidth64 _ (g.gr (by repeat (first | exact Gr.refl _ | refine Gr.alloc ?_ _ | refine Gr.ext ?_ _ | refine Gr.drew ?_ | refine Gr.setCell ?_ (by simp) _)))).mono ?_; rintro r w' ⟨rfl, x, rfl⟩)
  exact bodyPost_ret (v := .agg #[.int .u64 64, .int .u64 11, .int .u64 52]) (by simp [results, Tryz.results15, go_sem, ↓IntWalk.iteOmega]) rfl ⟨rfl, Gr.of (by repeat (first | exact Gr.refl _ | refine Gr.alloc ?_ _ | refine Gr.ext ?_ _ | refine Gr.drew ?_ | refine Gr.setCell ?_ (by simp) _))⟩

end Go.Proofs.Qxb6500680aGreatDoor

