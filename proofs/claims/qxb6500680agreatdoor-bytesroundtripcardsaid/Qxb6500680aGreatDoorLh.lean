import Derived.Test.Qxb6500680aGreatDoorLg
namespace Go.Proofs.Qxb6500680aGreatDoor
open Go.RowKit Go.BigFrame
open Go.Lib (byteCells byteCells_append strCells_eq)
set_option linter.unusedSimpArgs false
attribute [local go_sem] ext_cell_if ext_frozen_if alloc_cell_if alloc_frozen_if ext_size ext_ext
theorem Rb.drop {w : World} {g off : Nat} {l1 l2 : List UInt8} (h : Rb w g off (l1 ++ l2)) : Rb w g (off + l1.length) l2 := ⟨h.1, fun j b hb => by
  have := h.2 (l1.length + j) b (by rw [List.getElem?_append_right (by omega)]; simpa using hb)
  rwa [← Nat.add_assoc] at this⟩
/-- What UnpackLE answers: the words, and the bytes left over. -/
def UnpOK (B g m r : Nat) (ps : List Nat) (rest : List UInt8) (w : World) (e : Ending) (w' : World) : Prop := ∃ v o c, e = .returned (.tuple #[v, .slice (some ⟨g, o, none⟩) r c]) ∧ w'.ownsRow B 27 1 v m (wordCells ps) ∧ Rb w' g o rest ∧ Gr B w w'
set_option maxRecDepth 100000 in
set_option maxHeartbeats 1000000 in
theorem unpackLE_any (W K : Nat) (hW : Wk W K) (E F : Int) (g off cap : Nat) (ps : List Nat) (rest : List UInt8) (hps : ∀ p ∈ ps, p < 256 ^ K) (hr : rest.length < K) (hm : ps.length ≤ 131072) (w : World) (hb : Rb w g off (packs ps K ++ rest)) (L : Nat) (hL : L = (packs ps K ++ rest).length) (hcap : L ≤ cap) : Calls Tryz.prog 24 #[.agg #[.int .u64 W, .int .u64 E, .int .u64 F], .slice none 0 0, .slice (some ⟨g, off, none⟩) L cap] w (UnpOK w.heap.size g ps.length rest.length ps rest w) := by
  have hK8 : K ≤ 8 := by rcases hW with ⟨_, rfl⟩ | ⟨_, rfl⟩ <;> decide
  have C23 := hidden (fbytes_any W K hW E F)
  have LD := hidden (fun (o c : Nat) (bs : List UInt8) (h1 : K ≤ bs.length) (h2 : bs.length ≤ 2000000) (w1 : World) (h3 : Rb w1 g o bs) => loadLE_full W K hW E F g o c bs h1 h2 w1 h3)
  obtain ⟨bx, hbx⟩ : ∃ bx, bx = w.heap.size := ⟨_, rfl⟩
  have HPS := hidden hps
  have HB := hidden hb
  have HL := hidden hL
  have hgl := hb.1
  clear hW hb hps hL
  go_enter Tryz.func24, Tryz.ntmps24
  go_upto_region 2 with (go_at_call 23; (with_reducible refine (C23.out _).mono ?_); rintro _ _ ⟨rfl, x1, rfl⟩)
  clear C23
  refine wp_gen (fun w1 => w1.heap[bx]? = some (.cells #[.int .u64 W, .int .u64 E, .int .u64 F] 35) ∧ Gr w.heap.size w w1) ⟨by rw [hbx]; exact blk_ext (heap_new _ _), ((Gr.refl w).alloc _).ext _⟩ ?_
  simp only [← hbx]
  rintro w1 ⟨b1, hg⟩
  rw [hbx] at hg
  have HB1 := hidden b1
  have HG1 := hidden hg
  have HBX := hidden hbx
  clear b1 hg hbx
  go_loopw [1, 2, 9, 10] (fun s1 s2 _ _ wi => ∃ (dn qs : List Nat) (o c L' : Nat), dn ++ qs = ps ∧ s2 = .slice (some ⟨g, o, none⟩) L' c ∧ L' = (packs qs K ++ rest).length ∧ L' ≤ c ∧ Rb wi g o (packs qs K ++ rest) ∧ wi.ownsRow (bx + 1) 27 1 s1 dn.length (wordCells dn) ∧ wi.heap[bx]? = some (.cells #[.int .u64 W, .int .u64 E, .int .u64 F] 35) ∧ Gr w.heap.size w wi) (fun _ s2 _ _ _ => lenOf s2)
  case atStart => exact ⟨[], ps, off, cap, L, rfl, rfl, HL.out, hcap, HB.out.gr HG1.out.1 HB.out.1, ⟨rfl, .inl ⟨rfl, rfl⟩⟩, HB1.out, HG1.out⟩
  case round =>
    obtain ⟨dn, qs, o, c, L', hdq, rfl, hL', hLc, hrb, hown, hbk, hgr⟩ := hrel
    have hlq : L' = qs.length * K + rest.length := by rw [hL', List.length_append, packs_len]
    have hlen : dn.length + qs.length = ps.length := by rw [← hdq]; simp
    have HO := hidden hown
    have HBK := hidden hbk
    have HG := hidden hgr
    have HRB := hidden hrb
    have HDQ := hidden hdq
    rcases qs with _ | ⟨q, qs⟩
    · simp at hlq hlen
      have e2 : dn = ps := by simpa using hdq
      subst e2
      clear hown hbk hgr hrb hdq hL'
      go_wp2_with (fail)
      have hx := HBX.out
      go_ret2
      subst hlq
      exact ⟨_, o, c, rfl, own_mono HO.out (by omega), by simpa [packs] using HRB.out, HG.out⟩
    · have hq : q < 256 ^ K := HPS.out q (by rw [← hdq]; simp)
      have hlq2 : L' = qs.length * K + K + rest.length := by rw [hlq, List.length_cons, Nat.add_mul]; omega
      have hbnd : qs.length * K ≤ 1048576 := by
        have h1 : qs.length ≤ 131072 := by simp at hlen; omega
        have := Nat.mul_le_mul h1 hK8
        omega
      have LD2 := LD.out o c (packs (q :: qs) K ++ rest) (by rw [← hL']; omega) (by rw [← hL']; omega)
      rw [← hL'] at LD2
      have es : spell ((packs (q :: qs) K ++ rest).take K) = q := by
        have e1 : (packs (q :: qs) K ++ rest).take K = leb q K := by
          have e0 : packs (q :: qs) K ++ rest = leb q K ++ (packs qs K ++ rest) := by simp [packs]
          rw [e0, List.take_left' (leb_len K q)]
        rw [e1, spell_leb K q hq]
      rw [es] at LD2
      have f0 : wr.cell? ⟨bx, 0, none⟩ = some (.int .u64 W) := cell_of_cells hbk 0
      have f1 : wr.cell? ⟨bx, 1, none⟩ = some (.int .u64 E) := cell_of_cells hbk 1
      have f2 : wr.cell? ⟨bx, 2, none⟩ = some (.int .u64 F) := cell_of_cells hbk 2
      have hbl := lt_of_cells hbk
      have LD3 := hidden (LD2 wr HRB.out)
      have HL' := hidden hL'
      have HQ := hidden hlq2
      have hLK : K ≤ L' := by omega
      have hLb : L' ≤ 1048600 := by omega
      clear hown hbk hgr hrb hdq hL' LD2 es hq hlq hlq2 hbnd
      go_upto_region 5 with (first | (go_at_call 25; (with_reducible refine LD3.out.mono ?_); rintro _ _ ⟨rfl, x2, rfl⟩) | (at_builtin; refine putW1 rfl (.tmp 23) (.tmp 25) rfl (grow_own HO.out (grown_ext _ _ _)) (by simp [Act.eval]) q (by simp [Act.eval, ext_size]) (by omega) (by rw [ext_size]; omega) ?_; intro v' w' h2 h3; have H2 := hidden h2; have H3 := hidden (To.pre (grown_ext _ _ _) h3); clear h2 h3))
      have hb2 : w'.heap[bx]? = some (.cells #[.int .u64 W, .int .u64 E, .int .u64 F] 35) := (H3.out.1.block bx hbl (own_not HO.out HBK.out (by decide))).trans HBK.out
      have hg2 := H3.out.gr HG.out (fun k hk => by have := ownBlock_ge HO.out k hk; have := HBX.out; omega)
      have HB2 := hidden hb2
      have HG2 := hidden hg2
      clear hb2 hg2 f0 f1 f2 hbl
      go_wp2_with (fail)
      have hq2 := HQ.out
      have hlen2 : (packs qs K ++ rest).length = L' - K := by rw [List.length_append, packs_len]; omega
      have hrb2 : Rb w' g o (packs (q :: qs) K ++ rest) := by
        have h0 : Rb w' g o (packs (q :: qs) K ++ rest) := HRB.out.gr (B := w.heap.size) (w' := w') ?_ hgl
        · exact h0
        · exact ⟨HG2.out.1.os.trans HG.out.1.os.symm, HG2.out.1.tape.trans HG.out.1.tape.symm, HG2.out.1.output.trans HG.out.1.output.symm, H3.out.1.size, fun k hk => (HG2.out.1.block k hk).trans (HG.out.1.block k hk).symm⟩
      refine ⟨⟨dn ++ [q], qs, if c = K then o else o + K, c - K, L' - K, by rw [← HDQ.out]; simp, by split <;> rfl, hlen2.symm, by omega, ?_, by rw [List.length_append]; exact H2.out, HB2.out, HG2.out⟩, by show L' - K < L'; omega⟩
      split
      · have e0 : packs qs K ++ rest = [] := List.eq_nil_of_length_eq_zero (by omega)
        rw [e0]
        exact ⟨hrb2.1, fun j b hb => by simp at hb⟩
      · have e0 : packs (q :: qs) K ++ rest = leb q K ++ (packs qs K ++ rest) := by simp [packs]
        rw [e0] at hrb2
        have := hrb2.drop
        rwa [leb_len] at this
end Go.Proofs.Qxb6500680aGreatDoor
