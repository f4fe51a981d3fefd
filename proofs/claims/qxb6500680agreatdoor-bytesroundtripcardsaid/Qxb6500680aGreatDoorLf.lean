import Derived.Test.Qxb6500680aGreatDoorLe
namespace Go.Proofs.Qxb6500680aGreatDoor
open Go.RowKit Go.BigFrame
open Go.Lib (byteCells byteCells_append strCells_eq)
set_option linter.unusedSimpArgs false
attribute [local go_sem] ext_cell_if ext_frozen_if alloc_cell_if alloc_frozen_if ext_size ext_ext
/-- The numbers of a width: bytes and bits. -/
def Wk (W K : Nat) : Prop := (W = 32 ∧ K = 4) ∨ (W = 64 ∧ K = 8)
/-- A row of bytes l of the call's own. -/
def BytOK (B n : Nat) (l : List UInt8) (w : World) (e : Ending) (w' : World) : Prop := ∃ v, e = .returned v ∧ w'.ownsRow B 5 1 v n (byteCells l) ∧ Gr B w w'
set_option maxRecDepth 100000 in
set_option maxHeartbeats 1000000 in
/-- Fmt.Bytes: the bytes of a pattern, the least first. -/
theorem mbytes_any (W K : Nat) (hW : Wk W K) (E F : Int) (p : Nat) (hp : p ≤ 18446744073709551615) (w : World) : Calls Tryz.prog 21 #[.agg #[.int .i64 W, .int .i64 E, .int .i64 F], .int .u64 p] w (BytOK w.heap.size K (leb p K) w) := by
  obtain ⟨bx, hbx⟩ : ∃ bx, bx = w.heap.size := ⟨_, rfl⟩
  have hK : ((W : Int).tdiv 8) = (K : Int) ∧ K ≤ 8 := by
    rcases hW with ⟨rfl, rfl⟩ | ⟨rfl, rfl⟩ <;> decide
  obtain ⟨hK, hK8⟩ := hK
  have HPB := hidden hp
  clear hW hp
  go_enter Tryz.func21, Tryz.ntmps21
  go_upto_region 2 with (fail)
  refine wp_gen (fun w1 => w1.heap[bx]? = some (.cells #[.int .i64 W, .int .i64 E, .int .i64 F] 44) ∧ Gr w.heap.size w w1) ⟨by rw [hbx]; exact heap_new _ _, (Gr.refl w).alloc _⟩ ?_
  simp only [← hbx]
  rintro w1 ⟨b1, hg⟩
  rw [hbx] at hg
  have HB1 := hidden b1
  have HG1 := hidden hg
  have HBX := hidden hbx
  clear b1 hg hbx
  go_wp2_with (fail)
  go_loopw [1, 5, 6] (fun s1 s5 s6 wi => ∃ (i j q : Nat) (l : List UInt8), i + j = K ∧ s1 = .int .u64 q ∧ q ≤ p ∧ s6 = .int .i64 i ∧ l ++ leb q j = leb p K ∧ wi.ownsRow (bx + 1) 5 1 s5 i (byteCells l) ∧ wi.heap[bx]? = some (.cells #[.int .i64 W, .int .i64 E, .int .i64 F] 44) ∧ Gr w.heap.size w wi) (fun _ _ s6 _ => (K - intOf s6).toNat)
  case atStart => exact ⟨0, K, p, [], by omega, rfl, by omega, rfl, rfl, ⟨rfl, .inl ⟨rfl, rfl⟩⟩, HB1.out, HG1.out⟩
  case round =>
    obtain ⟨i, j, q, l, hij, rfl, hqp, rfl, hl, hown, hb, hgr⟩ := hrel
    have k0 : wr.cell? ⟨bx, 0, none⟩ = some (.int .i64 W) := cell_of_cells hb 0
    have hlt := lt_of_cells hb
    have HO := hidden hown
    have HB := hidden hb
    have HG := hidden hgr
    have HL := hidden hl
    clear hown hb hgr hl
    rcases j with _ | j
    · go_wp2_with (fail)
      have e1 : i = K := by omega
      subst e1
      have e2 : l = leb p i := by have := HL.out; simpa [leb] using this
      subst e2
      have hx := HBX.out
      go_ret
      exact ⟨_, rfl, own_mono HO.out (by omega), HG.out⟩
    · go_upto_region 6 with (at_builtin; refine putB1 rfl (.tmp 14) (.tmp 18) rfl HO.out (by simp [Act.eval]) (UInt8.ofNat (q % 256)) (by simp) (by simp [Act.eval]) (by omega) (by omega) ?_; intro v' w' h2 h3; have H2 := hidden h2; have H3 := hidden h3; clear h2 h3)
      have hb2 : w'.heap[bx]? = some (.cells #[.int .i64 W, .int .i64 E, .int .i64 F] 44) := (H3.out.1.block bx hlt (own_ne HO.out (by omega))).trans HB.out
      have hx := HBX.out
      have hg2 := H3.out.gr HG.out (fun k hk => by have := ownBlock_ge HO.out k hk; omega)
      go_wp2_with (fail)
      refine ⟨⟨i + 1, j, q / 256, l ++ [UInt8.ofNat (q % 256)], by omega, ?_, by omega, rfl, ?_, H2.out, hb2, hg2⟩, by simp [intOf]; omega⟩
      · have hh := HPB.out
        rw [show IntKind.u64.wrap ((q : Int) / 256) = ((q / 256 : Nat) : Int) by rw [IntKind.wrap_u64]; omega]
      · have := HL.out
        simpa [leb] using this
theorem leb_shift (p : Nat) : ∀ j k, leb (p / 2 ^ (8 * k)) (j + 1) = UInt8.ofNat (p / 2 ^ (8 * k) % 256) :: leb (p / 2 ^ (8 * (k + 1))) j := fun j k => by
  simp only [leb, Nat.div_div_eq_div_mul]
  rw [show 2 ^ (8 * (k + 1)) = 2 ^ (8 * k) * 256 by rw [show 8 * (k + 1) = 8 * k + 8 by omega, Nat.pow_add]]
/-- What an append of K bytes answers. -/
def AppLE (B n : Nat) (l : List UInt8) (w : World) (v : Value) (e : Ending) (w' : World) : Prop := ∃ v', e = .returned v' ∧ w'.ownsRow B 5 1 v' n (byteCells l) ∧ To w v w' v'
set_option maxRecDepth 100000 in
set_option maxHeartbeats 1000000 in
/-- AppendLE. -/
theorem appendLE_any (W K : Nat) (hW : Wk W K) (E F : Int) (B n : Nat) (l0 : List UInt8) (v0 : Value) (p : Nat) (hp : p ≤ 18446744073709551615) (hn : n ≤ 1900000) (w : World) (hown : w.ownsRow B 5 1 v0 n (byteCells l0)) (hB : B ≤ w.heap.size) : Calls Tryz.prog 91 #[.agg #[.int .u64 W, .int .u64 E, .int .u64 F], v0, .int .u64 p] w (AppLE B (n + K) (l0 ++ leb p K) w v0) := by
  obtain ⟨bx, hbx⟩ : ∃ bx, bx = w.heap.size := ⟨_, rfl⟩
  have hK : 8 * K = W ∧ K ≤ 8 := by
    rcases hW with ⟨rfl, rfl⟩ | ⟨rfl, rfl⟩ <;> decide
  obtain ⟨hK, hK8⟩ := hK
  have HPB := hidden hp
  have hob : ∀ k, v0.ownBlock = some k → k < w.heap.size := fun k hk => (World.ownsRow.lt hown k hk).2
  have HO0 := hidden (grow_own hown (grown_alloc w (.cells #[.int .u64 W, .int .u64 E, .int .u64 F] 35) none))
  have HOB := hidden hob
  clear hW hp hown hob
  go_enter Tryz.func91, Tryz.ntmps91
  go_upto_region 1 with (fail)
  refine wp_gen (fun w1 => w1.heap[bx]? = some (.cells #[.int .u64 W, .int .u64 E, .int .u64 F] 35) ∧ w1.ownsRow B 5 1 v0 n (byteCells l0) ∧ To w v0 w1 v0 ∧ B ≤ w1.heap.size) ⟨by rw [hbx]; exact heap_new _ _, HO0.out, To.pre (grown_alloc _ _ _) (To.refl _ _), by simp; omega⟩ ?_
  simp only [← hbx]
  rintro w1 ⟨b1, ho1, ht1, hB1⟩
  have HB1 := hidden b1
  have HO1 := hidden ho1
  have HT1 := hidden ht1
  have HBB1 := hidden hB1
  have HBX := hidden hbx
  clear b1 ho1 ht1 hbx HO0 hB1 hB
  go_wp2_with (fail)
  go_loopw [1, 7] (fun s1 s7 wi => ∃ (k j : Nat) (l : List UInt8), k + j = K ∧ s7 = .int .u64 (8 * (k : Int)) ∧ l ++ leb (p / 2 ^ (8 * k)) j = l0 ++ leb p K ∧ wi.ownsRow B 5 1 s1 (n + k) (byteCells l) ∧ wi.heap[bx]? = some (.cells #[.int .u64 W, .int .u64 E, .int .u64 F] 35) ∧ To w v0 wi s1 ∧ B ≤ wi.heap.size) (fun _ s7 _ => ((W : Int) - intOf s7).toNat)
  case atStart => exact ⟨0, K, l0, by omega, rfl, by simp, HO1.out, HB1.out, HT1.out, HBB1.out⟩
  case round =>
    obtain ⟨k, j, l, hkj, rfl, hl, hown, hb, hto, hBw⟩ := hrel
    have k0 : wr.cell? ⟨bx, 0, none⟩ = some (.int .u64 W) := cell_of_cells hb 0
    have hlt := lt_of_cells hb
    have HO := hidden hown
    have HB := hidden hb
    have HTO := hidden hto
    have HL := hidden hl
    clear hown hb hto hl
    rcases j with _ | j
    · go_wp2_with (fail)
      have e1 : k = K := by omega
      subst e1
      have e2 : l = l0 ++ leb p k := by have := HL.out; simpa [leb] using this
      subst e2
      go_ret
      exact ⟨_, rfl, HO.out, HTO.out⟩
    · go_upto_region 3 with (at_builtin; refine putB1 rfl (.tmp 14) (.tmp 19) rfl HO.out (by simp [Act.eval]) (UInt8.ofNat (p / 2 ^ (8 * k) % 256)) (by simp) (by simp [Act.eval]) (by omega) (by omega) ?_; intro v' w' h2 h3; have H2 := hidden h2; have H3 := hidden h3; clear h2 h3)
      have hb2 : w'.heap[bx]? = some (.cells #[.int .u64 W, .int .u64 E, .int .u64 F] 35) := (H3.out.1.block bx hlt (own_not HO.out HB.out (by decide))).trans HB.out
      have hto2 := HTO.out.trans H3.out
      have hB2 := Nat.le_trans hBw H3.out.1.size
      go_wp2_with (fail)
      refine ⟨⟨k + 1, j, l ++ [UInt8.ofNat (p / 2 ^ (8 * k) % 256)], by omega, ?_, ?_, H2.out, hb2, hto2, hB2⟩, by simp [intOf]; omega⟩
      · congr 1
      · have := HL.out
        rw [leb_shift] at this
        simpa using this
def packs (ps : List Nat) (K : Nat) : List UInt8 := ps.flatMap fun p => leb p K
theorem packs_len (K : Nat) : ∀ ps : List Nat, (packs ps K).length = ps.length * K
  | [] => by simp [packs]
  | p :: ps => by
    have := packs_len K ps
    simp only [packs, List.flatMap_cons, List.length_append, leb_len, List.length_cons] at *
    rw [this, Nat.add_mul]
    omega
theorem own_word {w : World} {B m : Nat} {v : Value} {ps : List Nat} (h : w.ownsRow B 27 1 v m (wordCells ps)) (hm : 0 < m) : ps.length = m ∧ ∃ g cap, v = .slice (some ⟨g, 0, none⟩) m cap ∧ B ≤ g ∧ g < w.heap.size ∧ ∀ (i p : Nat), ps[i]? = some p → w.cell? ⟨g, i, none⟩ = some (.int .u64 (p : Int)) := by
  obtain ⟨hl, h⟩ := h
  have hlen : ps.length = m := by simpa [wordCells] using hl
  refine ⟨hlen, ?_⟩
  rcases h with ⟨_, rfl⟩ | ⟨g, cap, cur, rfl, hB, hc, _, _, _, ht⟩
  · omega
  · refine ⟨g, cap, rfl, hB, lt_of_cells hc, fun i p hp => ?_⟩
    rw [cell_of_cells hc]
    have hi : i < m := by rw [← hlen]; exact (List.getElem?_eq_some_iff.1 hp).1
    have h1 : (cur.toList.take (m * 1))[i]? = (wordCells ps)[i]? := by rw [ht]
    rw [List.getElem?_take_of_lt (by omega)] at h1
    simp [wordCells, hp] at h1
    simpa using h1
set_option maxRecDepth 100000 in
set_option maxHeartbeats 1000000 in
/-- PackLE. -/
theorem packLE_any (W K : Nat) (hW : Wk W K) (E F : Int) (A m : Nat) (ps : List Nat) (bv : Value) (hps : ∀ (i p : Nat), ps[i]? = some p → p ≤ 18446744073709551615) (hm0 : 0 < m) (hm : m ≤ 131072) (w : World) (hbl : w.ownsRow A 27 1 bv m (wordCells ps)) : Calls Tryz.prog 22 #[.agg #[.int .u64 W, .int .u64 E, .int .u64 F], .slice none 0 0, bv] w (BytOK w.heap.size (m * K) (packs ps K) w) := by
  obtain ⟨hlen, gb, cap, rfl, hA, hgb, hcell⟩ := own_word hbl hm0
  obtain ⟨bx, hbx⟩ : ∃ bx, bx = w.heap.size := ⟨_, rfl⟩
  have hK8 : K ≤ 8 := by rcases hW with ⟨_, rfl⟩ | ⟨_, rfl⟩ <;> decide
  have HPS := hidden hps
  have HC := hidden hcell
  have APP := hidden (fun (n : Nat) (l0 : List UInt8) (v0 : Value) (p : Nat) (hp : p ≤ 18446744073709551615) (hn : n ≤ 1900000) (w1 : World) (ho : w1.ownsRow (bx + 1) 5 1 v0 n (byteCells l0)) (hB : bx + 1 ≤ w1.heap.size) => appendLE_any W K hW E F (bx + 1) n l0 v0 p hp hn w1 ho hB)
  clear hbl hps hcell hW
  go_enter Tryz.func22, Tryz.ntmps22
  go_upto_region 1 with (fail)
  refine wp_gen (fun w1 => w1.heap[bx]? = some (.cells #[.int .u64 W, .int .u64 E, .int .u64 F] 35) ∧ Gr w.heap.size w w1) ⟨by rw [hbx]; exact heap_new _ _, (Gr.refl w).alloc _⟩ ?_
  simp only [← hbx]
  rintro w1 ⟨b1, hg⟩
  rw [hbx] at hg
  have HB1 := hidden b1
  have HG1 := hidden hg
  have HBX := hidden hbx
  clear b1 hg hbx
  go_wp2_with (fail)
  go_loopw [1, 8, 11] (fun s1 _ s11 wi => ∃ i : Nat, i ≤ m ∧ s11 = .int .i64 i ∧ wi.ownsRow (bx + 1) 5 1 s1 (i * K) (byteCells (packs (ps.take i) K)) ∧ wi.heap[bx]? = some (.cells #[.int .u64 W, .int .u64 E, .int .u64 F] 35) ∧ Gr w.heap.size w wi) (fun _ _ s11 _ => (m - intOf s11).toNat)
  case atStart => exact ⟨0, by omega, rfl, ⟨by simp [packs, byteCells], .inl ⟨rfl, by simp⟩⟩, HB1.out, HG1.out⟩
  case round =>
    obtain ⟨i, hi, rfl, hown, hb, hgr⟩ := hrel
    have HO := hidden hown
    have HB := hidden hb
    have HG := hidden hgr
    by_cases hin : i < m
    · obtain ⟨p, hp⟩ : ∃ p, ps[i]? = some p := ⟨ps[i], by simp [hlen, hin]⟩
      have kc : wr.cell? ⟨gb, i, none⟩ = some (.int .u64 (p : Int)) := (hgr.1.cell (p := ⟨gb, i, none⟩) hgb).trans (HC.out i p hp)
      have f0 : wr.cell? ⟨bx, 0, none⟩ = some (.int .u64 W) := cell_of_cells hb 0
      have f1 : wr.cell? ⟨bx, 1, none⟩ = some (.int .u64 E) := cell_of_cells hb 1
      have f2 : wr.cell? ⟨bx, 2, none⟩ = some (.int .u64 F) := cell_of_cells hb 2
      have hbl := lt_of_cells hb
      have hx := HBX.out
      have hnn : i * K ≤ 1900000 := by have := Nat.mul_le_mul (show i ≤ 131072 by omega) hK8; omega
      have AP := hidden (APP.out (i * K) _ _ p (HPS.out i p hp) hnn wr HO.out (by omega))
      have et : ps.take (i + 1) = ps.take i ++ [p] := by rw [List.take_add_one, hp]; rfl
      have HE := hidden et
      clear hown hb hgr hx et hp hnn
      go_wp2_with (go_at_call 91; (with_reducible refine AP.out.mono ?_); rintro _ w2 ⟨v2, rfl, ho2, ht2⟩)
      have hb2 : w2.heap[bx]? = some (.cells #[.int .u64 W, .int .u64 E, .int .u64 F] 35) := (ht2.1.block bx hbl (own_not HO.out HB.out (by decide))).trans HB.out
      have hg2 := ht2.gr HG.out (fun k hk => by have := ownBlock_ge HO.out k hk; have := HBX.out; omega)
      refine ⟨⟨i + 1, by omega, by simp, ?_, hb2, hg2⟩, by simp [intOf]; omega⟩
      rw [HE.out]
      have e2 : packs (ps.take i ++ [p]) K = packs (ps.take i) K ++ leb p K := by simp [packs]
      rw [e2, Nat.add_mul, Nat.one_mul]
      exact ho2
    · have e1 : i = m := by omega
      subst e1
      clear hown hb hgr
      go_wp2_with (fail)
      have hx := HBX.out
      have e2 : ps.take i = ps := by rw [← hlen]; exact List.take_length
      have ho := HO.out
      rw [e2] at ho
      go_ret
      exact ⟨_, rfl, own_mono ho (by omega), HG.out⟩
end Go.Proofs.Qxb6500680aGreatDoor
