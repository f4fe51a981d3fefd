import Derived.Test.Qxb6500679aHolds
import Derived.Deep.RegionHeld3
namespace Go.Proofs.Qxb6500679a
open Go.RowKit Go.BigFrame
set_option linter.unusedSimpArgs false
attribute [local go_sem] ext_cell_if ext_frozen_if alloc_cell_if alloc_frozen_if ext_size ext_ext
def I16 (u : Value) : Prop := ∃ x : Int, u = .int .i16 x ∧ -32768 ≤ x ∧ x ≤ 32767
def I32 (u : Value) : Prop := ∃ x : Int, u = .int .i32 x ∧ -2147483648 ≤ x ∧ x ≤ 2147483647
def I64 (u : Value) : Prop := ∃ x : Int, u = .int .i64 x ∧ -9223372036854775808 ≤ x ∧ x ≤ 9223372036854775807
/-- A slice of n cells, each of them P, in one of the blocks A .. B - 1. -/
def Ry (A B : Nat) (w : World) (P : Value → Prop) (v : Value) (n : Nat) : Prop :=
  ∃ a c, v = .slice a n c ∧ n ≤ c ∧ (0 < n → ∃ g, a = some ⟨g, 0, none⟩ ∧ A ≤ g ∧ g < B ∧ ∀ j, j < n → ∃ u, w.cell? ⟨g, j, none⟩ = some u ∧ P u)
theorem Ry.keep {A B : Nat} {w w' : World} {P : Value → Prop} {v : Value} {n : Nat} (h : Ry A B w P v n) (hb : ∀ g, A ≤ g → g < B → w'.heap[g]? = w.heap[g]?) : Ry A B w' P v n := by
  obtain ⟨a, c, h1, h2, h3⟩ := h
  refine ⟨a, c, h1, h2, fun hl => ?_⟩
  obtain ⟨g, g1, g2, g2', g3⟩ := h3 hl
  exact ⟨g, g1, g2, g2', fun j hj => by rw [World.cell?_of_block (a := ⟨g, j, none⟩) (hb g g2 g2')]; exact g3 j hj⟩
theorem Ry.below {A B : Nat} {w w' : World} {P : Value → Prop} {v : Value} {n : Nat} (h : Ry A B w P v n) (hb : Below B w w') : Ry A B w' P v n := h.keep fun g _ hg => hb.block g hg
theorem Ry.ext {A B : Nat} {w : World} {P : Value → Prop} {v : Value} {n : Nat} (h : Ry A B w P v n) (hB : B ≤ w.heap.size) (x : Nat → Array Obj × Nat) : Ry A B (Qxb6500679a.ext w x) P v n := h.below ((ext_below w x).mono hB)
theorem Ry.alloc {A B : Nat} {w : World} {P : Value → Prop} {v : Value} {n : Nat} (h : Ry A B w P v n) (hB : B ≤ w.heap.size) (o : Obj) : Ry A B (w.alloc o) P v n := h.keep fun g _ h2 => Below.heap_alloc _ _ _ (by omega)
theorem Ry.mono {A B A' B' : Nat} {w : World} {P : Value → Prop} {v : Value} {n : Nat} (h : Ry A B w P v n) (ha : A' ≤ A) (hb : B ≤ B') : Ry A' B' w P v n := by
  obtain ⟨a, c, h1, h2, h3⟩ := h
  refine ⟨a, c, h1, h2, fun hl => ?_⟩
  obtain ⟨g, g1, g2, g2', g3⟩ := h3 hl
  exact ⟨g, g1, by omega, by omega, g3⟩
theorem Ry.own {w : World} {base : Nat} {e : TypeId} {P : Value → Prop} {v : Value} {n : Nat} {xs : List Value} (h : w.ownsRow base e 1 v n xs) (hx : ∀ u ∈ xs, P u) : Ry base w.heap.size w P v n := by
  have h0 := h
  obtain ⟨hl, ⟨rfl, h1⟩ | ⟨g, cap, cur, rfl, hg, hh, hn, _⟩⟩ := h
  · exact ⟨none, 0, by rw [h1], by omega, fun hne => by omega⟩
  · refine ⟨_, cap, rfl, hn, fun _ => ⟨g, rfl, hg, lt_of_cells hh, fun j hj => ?_⟩⟩
    have hj' : j < xs.length := by omega
    exact ⟨xs[j], by rw [h0.cellAt j (by omega), List.getElem?_eq_getElem hj'], hx _ (List.getElem_mem hj')⟩
theorem ediv_bd (y d : Int) (hd : 0 < d) (hy : -9223372036854775808 ≤ y ∧ y ≤ 9223372036854775807) : -9223372036854775808 ≤ y / d ∧ y / d ≤ 9223372036854775807 := by
  constructor
  · rw [Int.le_ediv_iff_mul_le hd]
    omega
  · apply Int.le_of_lt_add_one
    rw [Int.ediv_lt_iff_lt_mul hd]
    omega
theorem wrap64_bd (z : Int) : -9223372036854775808 ≤ wrap64 z ∧ wrap64 z ≤ 9223372036854775807 := by unfold wrap64; omega
set_option maxHeartbeats 1000000 in
theorem at_any (sh : Int) (cs bl : Value) (cn bn i : Nat) (w : World) (h0 : 0 ≤ sh) (hcs : Ry 0 w.heap.size w I16 cs cn) (hbl : Ry 0 w.heap.size w I32 bl bn) (hi : cn ≤ i) (hib : i ≤ bn) (hbn : bn ≤ 5000) :
    Calls Try.prog 21 #[.agg #[.int .u64 sh, cs], bl, .int .i64 i] w fun e w' => ∃ y : Int, e = .returned (.int .i64 y) ∧ (-9223372036854775808 ≤ y ∧ y ≤ 9223372036854775807) ∧ ∃ x, w' = ext w x := by
  obtain ⟨ca, cc, rfl, hcc, hcr⟩ := hcs
  obtain ⟨ba, bc, rfl, hbc, hbr⟩ := hbl
  have HC := hidden hcr
  have HB := hidden hbr
  clear hcr hbr
  go_enter Try.func21, Try.ntmps21
  go_wp2
  go_loop [7, 13] (fun t k => ∃ (y : Int) (j : Nat), j ≤ cn ∧ (-9223372036854775808 ≤ y ∧ y ≤ 9223372036854775807) ∧ t = .int .i64 y ∧ k = .int .i64 j) (fun _ k => cn - (intOf k).toNat)
  case atStart => exact ⟨0, 0, by omega, by omega, rfl, rfl⟩
  case round =>
    obtain ⟨y, j, hj, hy, rfl, rfl⟩ := hrel
    by_cases hjl : j < cn
    · obtain ⟨g, rfl, _, hg, hc⟩ := HC.out (by omega)
      obtain ⟨u, hu, x, rfl, hx1, hx2⟩ := hc j hjl
      obtain ⟨gb, rfl, _, hgb, hcb⟩ := HB.out (by omega)
      obtain ⟨ub, hub, z, rfl, hz1, hz2⟩ := hcb (i - 1 - j) (by omega)
      have e1 : ((i : Int) - 1 - (j : Int)).toNat = i - 1 - j := by omega
      clear hc hcb
      go_wp2
      refine ⟨⟨_, j + 1, by omega, ?_, rfl, by go_num⟩, by simp [intOf]; omega⟩
      exact wrap64_bd _
    · obtain rfl : j = cn := by omega
      go_wp2
      go_ret
      exact ⟨_, rfl, ediv_bd y _ (Int.pow_pos (by decide)) hy, Gr.of (by repeat (first | exact Gr.refl _ | refine Gr.alloc ?_ _))⟩
theorem Try.info2 : (Try.prog.info? 2).map (fun i => (i.zero, i.size, i.bytes)) = some (some (.int .i64 0), 1, 8) := by kernel_rfl
theorem Try.info49 : (Try.prog.info? 49).map (fun i => (i.zero, i.size, i.bytes)) = some (some (.int .u64 0), 1, 8) := by kernel_rfl
set_option maxHeartbeats 1000000 in
theorem zigzagged_any (rs : Value) (n k : Nat) (w : World) (hrs : Ry 0 w.heap.size w I64 rs n) (hn : n ≤ 4999) :
    Calls Try.prog 8 #[rs, .int .i64 k] w fun e w' => ∃ (V : Value) (l : List Nat), e = .returned V ∧ l.length ≤ 4999 ∧ (∀ v ∈ l, v < 18446744073709551616) ∧ Rd 0 w'.heap.size w' .u64 V l ∧ ∃ x, w' = ext w x := by
  obtain ⟨ca, cc, rfl, hcc, hcr⟩ := hrs
  have HC := hidden hcr
  clear hcr
  obtain ⟨i0, hi, hz0, hz1, hz2⟩ := info_parts Try.info49
  obtain ⟨m, hm⟩ : ∃ m, min k n = m := ⟨_, rfl⟩
  have hm1 : min (k : Int) (n : Int) = (m : Int) := by omega
  have hm2 : m ≤ n := by omega
  clear hm
  by_cases hmn : m = n
  · subst hmn
    clear HC
    go_enter Try.func8, Try.ntmps8
    cases ca
    all_goals
      go_wp2
    all_goals
      go_loopw [5, 15] (fun v i wi => v = .slice none 0 0 ∧ i = .int .i64 0 ∧ wi = w) (fun _ _ _ => 0)
      case atStart => exact ⟨rfl, rfl, rfl⟩
      case round =>
        obtain ⟨rfl, rfl, rfl⟩ := hrel
        go_wp2
        go_ret
        exact ⟨_, [], rfl, by simp, by simp, ⟨none, 0, rfl, by simp, by simp⟩, (Gr.refl _).of⟩
  · obtain ⟨g, rfl, _, hg, hc⟩ := HC.out (by omega)
    have hcm : ¬ cc = m := by omega
    have HCc := hidden hc
    clear hc HC
    go_enter Try.func8, Try.ntmps8
    go_wp2
    obtain ⟨q, hq⟩ : ∃ q, n - m = q := ⟨_, rfl⟩
    rw [hq]
    go_loopw [5, 15] (fun v i wi => ∃ (j : Nat) (l : List Nat) (qa : Option Addr) (qn qc : Nat), j ≤ q ∧ l.length = j ∧ i = .int .i64 j ∧ v = .slice qa qn qc ∧ (∀ v ∈ l, v < 18446744073709551616) ∧ Gr w.heap.size w wi ∧
       wi.ownsRow w.heap.size 49 1 (.slice qa qn qc) l.length (l.map fun (n : Nat) => Value.int .u64 (n : Int))) (fun _ i _ => q - (intOf i).toNat)
    case atStart => exact ⟨0, [], none, 0, 0, by omega, rfl, rfl, rfl, by simp, Gr.refl w, World.ownsRow_nil _ _ _ _⟩
    case round =>
      obtain ⟨j, l, qa, qn, qc, hj, hlj, rfl, rfl, hl64, hgr, hown⟩ := hrel
      have HO := hidden hown
      have H64 := hidden hl64
      clear hown hl64
      by_cases hjq : j < q
      · obtain ⟨u, hu, x, rfl, hx1, hx2⟩ := HCc.out (m + j) (by omega)
        have hu' : wr.cell? ⟨g, m + j, none⟩ = some (.int .i64 x) := by rw [hgr.1.cell (p := ⟨g, m + j, none⟩) hg]; exact hu
        clear hu
        have HZ := hidden (zigzag_any x wr hx1 hx2)
        go_wp2_with (first | (go_at_call 20; refine HZ.out.mono ?_; rintro e w' ⟨z, hz, rfl, rfl⟩) | (at_builtin; refine wpList_append_own _ rfl (.tmp 19) (.tmp 22) 33 rfl w.heap.size 49 i0 (.int .u64 0) 1 8 Try.underlying33 hi hz0 hz1 hz2 rfl (by decide) (.slice qa qn qc) l.length _ (by simp [Act.eval]) (HO.out.alloc _) ⟨w'.heap.size, 0, none⟩ 1 1 [.int .u64 z] (by simp [Act.eval]) rfl (by intro j u hj; rcases j with _ | j <;> simp at hj; subst hj; simp [Addr.add]) (by intro u hu; simp at hu; subst hu; rfl) (by unfold maxLen; omega) (by omega) (by have := hgr.2; simp; omega) ?_))
        intro v' w1 hown' hgrow _
        obtain ⟨qa', qn', qc', rfl⟩ := own_slice hown'
        have hgr1 : Gr w.heap.size w w1 := (hgr.alloc _).grown hgrow (fun k hk => ownBlock_ge HO.out k hk)
        have HO' := hidden hown'
        clear hown' hgrow
        go_wp2
        refine ⟨⟨j + 1, l ++ [z], qa', qn', qc', by omega, by simp; omega, by go_num, rfl, ?_, hgr1, by simpa [hlj] using HO'.out⟩, by simp [intOf]; omega⟩
        intro v hv
        rcases List.mem_append.1 hv with hv | hv
        · exact H64.out v hv
        · simp at hv; rw [hv]; exact hz
      · go_wp2
        go_ret
        exact ⟨_, l, rfl, by omega, H64.out, (Rd.own HO.out).mono (Nat.zero_le _) (Nat.le_refl _), hgr.of⟩
end Go.Proofs.Qxb6500679a
